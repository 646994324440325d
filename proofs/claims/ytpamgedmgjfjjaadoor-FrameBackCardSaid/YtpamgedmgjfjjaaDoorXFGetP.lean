/-
What is put is got: plain.
-/
import Derived.Test.YtpamgedmgjfjjaaDoorXFGet1
namespace Go.Proofs.YtpamgedmgjfjjaaDoor.M
open Go.RowKit Go.Proofs.YtpamgedmgjfjjaaDoorW.PrintWords Go.Proofs.YtpamgedmgjfjjaaDoorW.PrintLast Go.Proofs.YtpamgedmgjfjjaaDoorW.PrintMore
set_option linter.unusedVariables false
set_option linter.unusedSimpArgs false
theorem textL_app (n : Nat) (hd : List Int) (hn : hd.length = n) (s : ByteArray) (rest : List Int) (hv : numL hd = s.size) : textL n (hd ++ (bytesOf s ++ rest)) = some (s, rest) := by
  have e1 : (hd ++ (bytesOf s ++ rest)).take n = hd := by rw [← hn, List.take_left]
  have e2 : (hd ++ (bytesOf s ++ rest)).drop n = bytesOf s ++ rest := by rw [← hn, List.drop_left]
  have e3 : (bytesOf s ++ rest).take s.size = bytesOf s := by rw [← bytesOf_length, List.take_left]
  have e4 : (bytesOf s ++ rest).drop s.size = rest := by rw [← bytesOf_length, List.drop_left]
  unfold textL
  rw [e1, e2, hv, if_pos ⟨by rw [List.length_append]; omega, by rw [List.length_append, bytesOf_length]; omega⟩, Int.toNat_natCast, e3, e4, str_bytesOf]
theorem numL_four (n : Int) (h0 : 0 ≤ n) (h1 : n < 4294967296) : numL (fourL n) = n := by
  show (((0 * 256 + n / 16777216 % 256) * 256 + n / 65536 % 256) * 256 + n / 256 % 256) * 256 + n % 256 = n
  omega
theorem getL_put_more (q : AskV) (hok : q.ok = true) (more : List Int) : getL (q.put ++ more) = get8 q more := by
  have hb := q.ok_bounds hok
  obtain ⟨k, name, f, lang, out, dst, mat, body⟩ := q
  simp only at hb
  have e : (AskV.mk k name f lang out dst mat body).put ++ more = k :: f :: lang :: out :: dst :: ([(name.size : Int)] ++ (bytesOf name ++ (fourL mat ++ (fourL body.size ++ (bytesOf body ++ more))))) := by
    simp only [AskV.put, AskV.head, List.append_assoc, List.cons_append, List.nil_append]
    rw [Int.emod_eq_of_lt (a := k) (by omega) (by omega), Int.emod_eq_of_lt (a := f) (by omega) (by omega), Int.emod_eq_of_lt (a := lang) (by omega) (by omega), Int.emod_eq_of_lt (a := out) (by omega) (by omega), Int.emod_eq_of_lt (a := dst) (by omega) (by omega)]
  rw [e]
  show get5 k f lang out dst _ = _
  have h1 := textL_app 1 [(name.size : Int)] rfl name (fourL mat ++ (fourL body.size ++ (bytesOf body ++ more))) (by simp [numL])
  have t4 : (fourL mat ++ (fourL body.size ++ (bytesOf body ++ more))).take 4 = fourL mat := by rw [← fourL_len mat, List.take_left]
  have d4 : (fourL mat ++ (fourL body.size ++ (bytesOf body ++ more))).drop 4 = fourL body.size ++ (bytesOf body ++ more) := by rw [← fourL_len mat, List.drop_left]
  have h2 := textL_app 4 (fourL body.size) (fourL_len _) body more (numL_four _ (by omega) (by omega))
  unfold get5
  rw [h1]
  show get6 k name f lang out dst _ = _
  unfold get6
  rw [if_neg (by rw [List.length_append, fourL_len]; omega), t4, d4, numL_four mat (by omega) (by omega)]
  unfold get7
  rw [h2]
theorem getL_put (q : AskV) (hok : q.ok = true) : getL q.put = (0, q) := by
  have h := getL_put_more q hok []
  rw [List.append_nil] at h
  rw [h, get8, if_neg (by simp), if_pos hok]
theorem byte_mod (n : Int) : 0 ≤ n % 256 ∧ n % 256 ≤ 255 := by omega
theorem bytes_bytesOf (s : ByteArray) : Bytes (bytesOf s) := by
  intro x hx
  simp only [bytesOf, List.mem_map] at hx
  obtain ⟨b, _, rfl⟩ := hx
  have := b.toNat_lt
  omega
theorem bytes_four (n : Int) : Bytes (fourL n) := by
  intro x hx
  simp only [fourL, List.mem_cons, List.not_mem_nil, or_false] at hx
  rcases hx with rfl | rfl | rfl | rfl <;> omega
theorem bytes_put (q : AskV) (hok : q.ok = true) : Bytes q.put := by
  have hb := q.ok_bounds hok
  intro x hx
  simp only [AskV.put, List.mem_append] at hx
  rcases hx with (((h | h) | h) | h) | h
  · simp only [AskV.head, List.mem_cons, List.not_mem_nil, or_false] at h
    rcases h with rfl | rfl | rfl | rfl | rfl | rfl <;> omega
  · exact bytes_bytesOf _ x h
  · exact bytes_four _ x h
  · exact bytes_four _ x h
  · exact bytes_bytesOf _ x h
end Go.Proofs.YtpamgedmgjfjjaaDoor.M
