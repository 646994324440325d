/-
Plain: an answer's bytes back; cut bytes are none; more bytes are none.
-/
import Derived.Test.YtpamgedmgjfjjaaDoorXFAns
namespace Go.Proofs.YtpamgedmgjfjjaaDoor.M
open Go.RowKit Go.Proofs.YtpamgedmgjfjjaaDoorW.PrintWords Go.Proofs.YtpamgedmgjfjjaaDoorW.PrintLast Go.Proofs.YtpamgedmgjfjjaaDoorW.PrintMore
set_option linter.unusedVariables false
set_option linter.unusedSimpArgs false
theorem textL_ext {n : Nat} {l l' : List Int} {s : ByteArray} (h : textL n l = some (s, l')) (ext : List Int) : textL n (l ++ ext) = some (s, l' ++ ext) := by
  unfold textL at h ⊢
  split at h
  · rename_i hc
    simp only [Option.some.injEq, Prod.mk.injEq] at h
    obtain ⟨rfl, rfl⟩ := h
    have t1 : (l ++ ext).take n = l.take n := List.take_append_of_le_length hc.1
    have t2 : (l ++ ext).drop n = l.drop n ++ ext := List.drop_append_of_le_length hc.1
    have hm : (numL (l.take n)).toNat ≤ (l.drop n).length := by omega
    rw [t1, t2, if_pos ⟨by rw [List.length_append]; omega, by rw [List.length_append]; omega⟩, List.take_append_of_le_length hm, List.drop_append_of_le_length hm]
  · cases h
theorem getL_ext (l ext : List Int) (he : ext ≠ []) (h : (getL l).1 ≠ 2) : (getL (l ++ ext)).1 = 2 := by
  by_cases h5 : l.length < 5
  · rw [getL_short l h5] at h; exact absurd rfl h
  obtain ⟨x0, x1, x2, x3, x4, l5, rfl⟩ := five l (by omega)
  show (get5 x0 x1 x2 x3 x4 (l5 ++ ext)).1 = 2
  have h' : (get5 x0 x1 x2 x3 x4 l5).1 ≠ 2 := h
  unfold get5 at h' ⊢
  rcases ht : textL 1 l5 with _ | ⟨name, l6⟩
  · rw [ht] at h'; exact absurd rfl h'
  rw [ht] at h'
  rw [textL_ext ht ext]
  show (get6 x0 name x1 x2 x3 x4 (l6 ++ ext)).1 = 2
  have h6 : (get6 x0 name x1 x2 x3 x4 l6).1 ≠ 2 := h'
  unfold get6 at h6 ⊢
  by_cases h4 : l6.length < 4
  · rw [if_pos h4] at h6; exact absurd rfl h6
  rw [if_neg h4] at h6
  rw [if_neg (by rw [List.length_append]; omega), List.take_append_of_le_length (by omega), List.drop_append_of_le_length (by omega)]
  unfold get7 at h6 ⊢
  rcases ht : textL 4 (l6.drop 4) with _ | ⟨body, l8⟩
  · rw [ht] at h6; exact absurd rfl h6
  rw [textL_ext ht ext]
  show (get8 _ (l8 ++ ext)).1 = 2
  unfold get8
  rw [if_pos (by intro h0; exact he (List.append_eq_nil_iff.1 h0).2)]
theorem getL_cut (q : AskV) (hok : q.ok = true) (k : Nat) (hk : k < q.put.length) : (getL (q.put.take k)).1 = 2 := by
  have hd : q.put.drop k ≠ [] := by intro h0; rw [List.drop_eq_nil_iff] at h0; omega
  refine Classical.byContradiction fun h => ?_
  have := getL_ext (q.put.take k) (q.put.drop k) hd h
  rw [List.take_append_drop, getL_put q hok] at this
  exact absurd this (by show ¬ ((0 : Int) = 2); decide)
theorem getL_more (q : AskV) (hok : q.ok = true) (more : List Int) : ((getL (q.put ++ more)).1 = 0 ↔ more = []) := by
  rw [getL_put_more q hok more, get8]
  by_cases h : more = []
  · subst h; simp [hok]
  · simp [h]
theorem ansG_put (x : AnsV) (hok : x.ok = true) : ansG x.put = (0, x) := by
  have hb := x.ok_bounds hok
  obtain ⟨e, i, r, body⟩ := x
  simp only at hb
  have e1 : (AnsV.mk e i r body).put = e :: (i + 1) :: (fourL r ++ (fourL body.size ++ (bytesOf body ++ []))) := by
    simp only [AnsV.put, List.append_assoc, List.cons_append, List.nil_append, List.append_nil]
  rw [e1]
  show ans2 e (i + 1 - 1) _ = _
  have t4 : (fourL r ++ (fourL body.size ++ (bytesOf body ++ []))).take 4 = fourL r := by rw [← fourL_len r, List.take_left]
  have d4 : (fourL r ++ (fourL body.size ++ (bytesOf body ++ []))).drop 4 = fourL body.size ++ (bytesOf body ++ []) := by rw [← fourL_len r, List.drop_left]
  have h2 := textL_app 4 (fourL body.size) (fourL_len _) body [] (numL_four _ (by omega) (by omega))
  unfold ans2
  rw [if_neg (by rw [List.length_append, fourL_len]; omega), t4, d4, numL_four r (by omega) (by omega), show i + 1 - 1 = i by omega]
  unfold ans4
  rw [h2]
  show ans5 _ [] = _
  unfold ans5
  rw [if_neg (by simp), if_pos hok]
theorem ansG_ext (l ext : List Int) (he : ext ≠ []) (h : (ansG l).1 ≠ 2) : (ansG (l ++ ext)).1 = 2 := by
  match l, h with
  | [], h => exact absurd rfl h
  | [_], h => exact absurd rfl h
  | e :: i :: l, h =>
    show (ans2 e (i - 1) (l ++ ext)).1 = 2
    have h6 : (ans2 e (i - 1) l).1 ≠ 2 := h
    unfold ans2 at h6 ⊢
    by_cases h4 : l.length < 4
    · rw [if_pos h4] at h6; exact absurd rfl h6
    rw [if_neg h4] at h6
    rw [if_neg (by rw [List.length_append]; omega), List.take_append_of_le_length (by omega), List.drop_append_of_le_length (by omega)]
    unfold ans4 at h6 ⊢
    rcases ht : textL 4 (l.drop 4) with _ | ⟨body, l8⟩
    · rw [ht] at h6; exact absurd rfl h6
    rw [textL_ext ht ext]
    show (ans5 _ (l8 ++ ext)).1 = 2
    unfold ans5
    rw [if_pos (by intro h0; exact he (List.append_eq_nil_iff.1 h0).2)]
theorem ansG_cut (x : AnsV) (hok : x.ok = true) (k : Nat) (hk : k < x.put.length) : (ansG (x.put.take k)).1 = 2 := by
  have hd : x.put.drop k ≠ [] := by intro h0; rw [List.drop_eq_nil_iff] at h0; omega
  refine Classical.byContradiction fun h => ?_
  have := ansG_ext (x.put.take k) (x.put.drop k) hd h
  rw [List.take_append_drop, ansG_put x hok] at this
  exact absurd this (by show ¬ ((0 : Int) = 2); decide)
theorem bytes_ans (x : AnsV) (hok : x.ok = true) : Bytes x.put := by
  have hb := x.ok_bounds hok
  intro y hy
  simp only [AnsV.put, List.mem_append] at hy
  rcases hy with ((h | h) | h) | h
  · simp only [List.mem_cons, List.not_mem_nil, or_false] at h
    rcases h with rfl | rfl <;> omega
  · exact bytes_four _ y h
  · exact bytes_four _ y h
  · exact bytes_bytesOf _ y h
theorem bytes_take {l : List Int} (h : Bytes l) (k : Nat) : Bytes (l.take k) := fun x hx => h x (List.mem_of_mem_take hx)
theorem bytes_append {l m : List Int} (h : Bytes l) (h2 : Bytes m) : Bytes (l ++ m) := fun x hx => by
  rcases List.mem_append.1 hx with h1 | h1
  · exact h x h1
  · exact h2 x h1
/-- frame.Get, whatever comes of it. -/
theorem get_any (w : World) (l : List Int) (A : Option Addr) (c : Nat) (hc : l.length ≤ c) (hC : (Kd.int .u8).C w A l.length l) (hl : l.length ≤ 1000000) (hby : Bytes l) (hT : Tabs w) :
    Calls Tryd.prog 31 #[.slice A l.length c] w fun r w' => (∃ q : AskV, r = .returned (.tuple #[.agg q.cells, .int .i64 (getL l).1])) ∧ Below w.heap.size w w' := by
  by_cases h : (getL l).1 = 0
  · rw [h]
    exact (get_good w l A c (getL l).2 (by rw [← h]) hc hC hl hby hT).mono fun r w' hr => ⟨⟨_, hr.1⟩, hr.2⟩
  · exact (get_bad w l A c _ rfl h hc hC hl hby hT).mono fun r w' hr => ⟨⟨_, hr.1⟩, hr.2⟩
theorem ans_any (w : World) (l : List Int) (A : Option Addr) (c : Nat) (hc : l.length ≤ c) (hC : (Kd.int .u8).C w A l.length l) (hl : l.length ≤ 1000000) (hby : Bytes l) :
    Calls Tryd.prog 36 #[.slice A l.length c] w fun r w' => (∃ q : AnsV, r = .returned (.tuple #[.agg q.cells, .int .i64 (ansG l).1])) ∧ Below w.heap.size w w' := by
  by_cases h : (ansG l).1 = 0
  · rw [h]
    exact (ans_good w l A c (ansG l).2 (by rw [← h]) hc hC hl hby).mono fun r w' hr => ⟨⟨_, hr.1⟩, hr.2⟩
  · exact (ans_bad w l A c _ rfl h hc hC hl hby).mono fun r w' hr => ⟨⟨_, hr.1⟩, hr.2⟩
end Go.Proofs.YtpamgedmgjfjjaaDoor.M
