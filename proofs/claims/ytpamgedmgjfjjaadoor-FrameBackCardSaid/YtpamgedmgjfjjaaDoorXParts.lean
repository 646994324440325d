/-
The walk of UtfParts.
-/
import Derived.Test.YtpamgedmgjfjjaaDoorXCount
import Derived.Test.YtpamgedmgjfjjaaDoorM1
namespace Go.Proofs.YtpamgedmgjfjjaaDoor.M
open Go.RowKit Go.Proofs.YtpamgedmgjfjjaaDoorW.PrintWords Go.Proofs.YtpamgedmgjfjjaaDoorW.PrintLast Go.Proofs.YtpamgedmgjfjjaaDoorW.PrintMore
open Go.Lib
set_option linter.unusedVariables false
set_option linter.unusedSimpArgs false

theorem valid_c (s : ByteArray) (b : Bool) (hb : validU s s.size 0 = b) (w : World) (hT : Tabs w) : Calls Tryd.prog 14 #[.string s] w fun e w' => e = .returned (.bool b) ∧ Below w.heap.size w w' := by
  subst hb
  exact utf_Valid_calls s w hT
theorem xplace (a n : Int) (h0 : 0 < n) (h1 : n ≤ 1000000) : ∃ r, erratumlaw00_Place.f a n = some r ∧ 0 ≤ r ∧ r < n := by
  unfold erratumlaw00_Place.f
  have hb := Int.tmod_lt_of_pos a h0
  have hc : -n < Int.tmod a n := by
    have := Int.tmod_lt_of_pos (-a) h0
    rw [Int.neg_tmod] at this
    omega
  rw [if_neg (by omega)]
  split
  · refine ⟨_, rfl, ?_⟩
    unfold wrap64
    omega
  · exact ⟨_, rfl, by omega, hb⟩
set_option maxHeartbeats 1000000 in
set_option maxRecDepth 100000 in
/-- Where the texts are too long, or none. -/
theorem parts_out (a b : ByteArray) (at_ : Int) (w : World) (hT : Tabs w) (h : 300 < a.size ∨ 300 < b.size ∨ validU a a.size 0 = false ∨ validU b b.size 0 = false) :
    Calls Tryd.prog 3 #[.string a, .string b, .int .i64 at_] w fun e w' => e = .returned (.bool true) ∧ Below w.heap.size w w' := by
  have HT := Aside0.mk hT
  have HW := Aside0.mk (fun w1 (h : Below w.heap.size w w1) => utf_awake_calls w1 (tabs_below HT.out h))
  have HB0 := Aside0.mk (Below.refl w.heap.size w)
  clear hT
  by_cases ha : 300 < a.size
  · go_enter Tryd.func3, Tryd.ntmps3
    go_wp2_with (go_at_call 15; refine (HW.out _ HB0.out).mono ?_; rintro e w3 ⟨rfl, hb⟩; have HB3 := Aside0.mk (below_step HB0.out hb); clear hb)
    go_ret
    exact ⟨rfl, HB3.out⟩
  · by_cases hb : 300 < b.size
    · go_enter Tryd.func3, Tryd.ntmps3
      go_wp2_with (go_at_call 15; refine (HW.out _ HB0.out).mono ?_; rintro e w3 ⟨rfl, hb⟩; have HB3 := Aside0.mk (below_step HB0.out hb); clear hb)
      go_ret
      exact ⟨rfl, HB3.out⟩
    · cases hva : validU a a.size 0
      · have HA := Aside0.mk (valid_c a false hva w HT.out)
        clear hva h
        go_enter Tryd.func3, Tryd.ntmps3
        go_wp2_with (first
          | (go_at_call 14; refine HA.out.mono ?_; rintro e w1 ⟨rfl, hb⟩; have HB1 := Aside0.mk hb; clear hb)
          | (go_at_call 15; refine (HW.out _ HB1.out).mono ?_; rintro e w3 ⟨rfl, hb⟩; have HB3 := Aside0.mk (below_step HB1.out hb); clear hb))
        go_ret
        exact ⟨rfl, HB3.out⟩
      · have hvb : validU b b.size 0 = false := by
          rcases h with h | h | h | h
          · exact absurd h ha
          · exact absurd h hb
          · rw [hva] at h
            cases h
          · exact h
        have HA := Aside0.mk (valid_c a true hva w HT.out)
        have HB := Aside0.mk (fun w1 (h : Below w.heap.size w w1) => valid_c b false hvb w1 (tabs_below HT.out h))
        clear hva h hvb
        go_enter Tryd.func3, Tryd.ntmps3
        go_wp2_with (first
          | (go_at_call 14; refine HA.out.mono ?_; rintro e w1 ⟨rfl, hb⟩; have HB1 := Aside0.mk hb; clear hb HA)
          | (go_at_call 14; refine (HB.out _ HB1.out).mono ?_; rintro e w2 ⟨rfl, hb⟩; have HB2 := Aside0.mk (below_step HB1.out hb); clear hb)
          | (go_at_call 15; refine (HW.out _ HB2.out).mono ?_; rintro e w3 ⟨rfl, hb⟩; have HB3 := Aside0.mk (below_step HB2.out hb); clear hb))
        go_ret
        exact ⟨rfl, HB3.out⟩
theorem runes_len (s : ByteArray) (w : World) (hT : Tabs w) (hs : s.size ≤ 1000000) :
    Calls Tryd.prog 17 #[.string s] w fun e w' => ∃ (a : Option Addr) (c : Nat), e = .returned (.slice a (rAll s.data.toList).length c) ∧ Below w.heap.size w w' := by
  refine (utf_Runes_calls s w hT hs).mono ?_
  rintro e w' ⟨v, rfl, hR, hb⟩
  rw [runesU_all] at hR
  obtain ⟨a, c, rfl, _⟩ := Kd.R_reads hR
  exact ⟨a, c, rfl, hb⟩
theorem rL_len : ∀ (f : Nat) (l : List UInt8), (rL f l).length ≤ l.length
  | 0, l => by simp [rL]
  | f + 1, l => by
    rw [rL]
    by_cases h : l = []
    · rw [if_pos h]; simp
    · have hp := dec_pos l
      have hl := List.length_pos_iff.2 h
      have ih := rL_len f (l.drop (decodeL l).2)
      rw [List.length_drop] at ih
      rw [if_neg h, List.length_cons]
      omega
theorem rAll_len (l : List UInt8) : (rAll l).length ≤ l.length := rL_len _ _
/-- Where the cut lies: is it at an edge between runes? -/
def edgeB (s : ByteArray) (n : Nat) : Bool := decide (n = s.size) || decide ((s.data.toList.getD n 0).toNat / 64 ≠ 2)
theorem bool_of_iff {b : Bool} {p : Prop} (h : b = true ↔ p) (c : Bool) (hc : c = true ↔ p) : b = c := by
  rw [Bool.eq_iff_iff, h, hc]
theorem cut_left (s : ByteArray) (hs : Good s.data.toList) (n : Nat) (hn : n ≤ s.size) : validU (s.extract 0 n) (s.extract 0 n).size 0 = edgeB s n := by
  have hl : s.data.toList.length = s.size := by rw [Array.length_toList]; rfl
  have h := (good_cut hs n (by omega)).1
  refine bool_of_iff (validU_good _) _ ?_
  have e : (s.extract 0 n).data.toList = s.data.toList.take n := by simp
  rw [e, h, hl]
  simp [edgeB]
theorem cut_right (s : ByteArray) (hs : Good s.data.toList) (n m : Nat) (hn : n ≤ s.size) (hm : m = s.size) : validU (s.extract n m) (s.extract n m).size 0 = edgeB s n := by
  subst hm
  have hl : s.data.toList.length = s.size := by rw [Array.length_toList]; rfl
  have h := (good_cut hs n (by omega)).2
  refine bool_of_iff (validU_good _) _ ?_
  have e : (s.extract n s.size).data.toList = s.data.toList.drop n := by
    simp
    rw [List.take_of_length_le (by rw [List.length_drop, hl]; omega)]
  rw [e, h, hl]
  simp [edgeB]
theorem and192_all : ∀ x : Fin 256, (bits BinOp.and IntKind.u8 ((x.val : Nat) : Int) 192 != 128) = decide (x.val / 64 ≠ 2) := by decide +kernel
theorem and192 (x : Nat) (h : x < 256) : (bits BinOp.and IntKind.u8 (x : Int) 192 != 128) = decide (x / 64 ≠ 2) := and192_all ⟨x, h⟩
theorem edge_bits (s : ByteArray) (n : Nat) (h : n < s.size) : (bits BinOp.and IntKind.u8 ((s[n]'h).toNat : Int) 192 != 128) = edgeB s n := by
  rw [and192 _ (by have := (s[n]'h).toNat_lt; omega)]
  have e : s.data.toList.getD n 0 = s[n]'h := by
    rw [List.getD_eq_getElem?_getD, List.getElem?_eq_getElem (by simpa using h)]
    rfl
  rw [edgeB, e, decide_eq_false (by omega : ¬ n = s.size), Bool.false_or]
theorem runes_c (s : ByteArray) (m : Nat) (hm : (rAll s.data.toList).length = m) (w : World) (hT : Tabs w) (hs : s.size ≤ 1000000) :
    Calls Tryd.prog 17 #[.string s] w fun e w' => ∃ (a : Option Addr) (c : Nat), e = .returned (.slice a m c) ∧ Below w.heap.size w w' := by
  subst hm
  exact runes_len s w hT hs
set_option maxHeartbeats 4000000 in
set_option maxRecDepth 100000 in
theorem parts_in (a b : ByteArray) (at_ : Int) (w : World) (hT : Tabs w) (ha : a.size ≤ 300) (hb : b.size ≤ 300) (va : validU a a.size 0 = true) (vb : validU b b.size 0 = true) :
    Calls Tryd.prog 3 #[.string a, .string b, .int .i64 at_] w fun e w' => e = .returned (.bool true) ∧ Below w.heap.size w w' := by
  obtain ⟨k, hk, hk0, hk1⟩ := xplace at_ ((a.size : Int) + b.size + 1) (by omega) (by omega)
  obtain ⟨n, rfl⟩ := Int.eq_ofNat_of_zero_le hk0
  have hn : n ≤ a.size + b.size := by omega
  clear hk0 hk1
  have hsz : (a ++ b).size = a.size + b.size := ByteArray.size_append
  have ga := (validU_good a).1 va
  have gb := (validU_good b).1 vb
  have hdata : (a ++ b).data.toList = a.data.toList ++ b.data.toList := by simp
  have gs : Good (a ++ b).data.toList := by rw [hdata]; exact good_app ga gb
  have HT := Aside0.mk hT
  have HA := Aside0.mk (valid_c a true va w HT.out)
  have HB := Aside0.mk (fun w1 (h : Below w.heap.size w w1) => valid_c b true vb w1 (tabs_below HT.out h))
  have HK := Aside0.mk (fun w1 => erratumlaw00_Place.calls at_ ((a.size : Int) + b.size + 1) n w1 hk)
  have HS := Aside0.mk (fun w1 (h : Below w.heap.size w w1) => valid_c (a ++ b) true ((validU_good _).2 gs) w1 (tabs_below HT.out h))
  have HX1 := Aside0.mk (fun w1 (h : Below w.heap.size w w1) => valid_c ((a ++ b).extract 0 n) (edgeB (a ++ b) n) (cut_left _ gs n (by omega)) w1 (tabs_below HT.out h))
  have HX2 := Aside0.mk (fun w1 (h : Below w.heap.size w w1) => valid_c ((a ++ b).extract n (a.size + b.size)) (edgeB (a ++ b) n) (cut_right _ gs n _ (by omega) hsz.symm) w1 (tabs_below HT.out h))
  have hla := rAll_len a.data.toList
  have hlb := rAll_len b.data.toList
  rw [data_length] at hla hlb
  obtain ⟨la, ea⟩ : ∃ la, (rAll a.data.toList).length = la := ⟨_, rfl⟩
  obtain ⟨lb, eb⟩ : ∃ lb, (rAll b.data.toList).length = lb := ⟨_, rfl⟩
  have es : (rAll (a ++ b).data.toList).length = la + lb := by rw [hdata, rAll_app ga, List.length_append, ea, eb]
  rw [ea] at hla
  rw [eb] at hlb
  have HRA := Aside0.mk (fun w1 (h : Below w.heap.size w w1) => runes_c a la ea w1 (tabs_below HT.out h) (by omega))
  have HRB := Aside0.mk (fun w1 (h : Below w.heap.size w w1) => runes_c b lb eb w1 (tabs_below HT.out h) (by omega))
  have HRS := Aside0.mk (fun w1 (h : Below w.heap.size w w1) => runes_c (a ++ b) (la + lb) es w1 (tabs_below HT.out h) (by omega))
  have HW := Aside0.mk (fun w1 (h : Below w.heap.size w w1) => utf_awake_calls w1 (tabs_below HT.out h))
  have hsum : a.size + b.size ≤ 9223372036854775807 := by omega
  have hz1 := eq_true hsum
  have hz2 : (9223372036854775807 < a.size + b.size) = False := eq_false (Nat.not_lt.2 hsum)
  have hn1 := eq_true hn
  have hl1 : la ≤ 300 := by omega
  have hl2 : lb ≤ 300 := by omega
  clear hT hk va vb ga gb hdata gs ea eb es hla hlb
  have HF := Aside0.mk (fun h : n < (a ++ b).size => edge_bits (a ++ b) n h)
  have HE := Aside0.mk (show edgeB (a ++ b) n = (decide (n = (a ++ b).size) || decide (((a ++ b).data.toList.getD n 0).toNat / 64 ≠ 2)) from rfl)
  generalize edgeB (a ++ b) n = ed at *
  go_enter Tryd.func3, Tryd.ntmps3
  go_wp2_with (first
    | (go_at_call 14; refine HA.out.mono ?_; rintro e w1 ⟨rfl, hb⟩; have HB1 := Aside0.mk hb; clear hb HA)
    | (go_at_call 14; refine (HB.out _ HB1.out).mono ?_; rintro e w2 ⟨rfl, hb⟩; have HB2 := Aside0.mk (below_step HB1.out hb); clear hb)
    | (go_at_call 16; refine (HK.out _).mono ?_; rintro e w3 ⟨rfl, hd⟩; have HB3 := Aside0.mk (below_step HB2.out hd.below); clear hd)
    | fail)
  clear HB1 HB2
  go_cut [9, 10] from 39 to 46 (fun s9 s10 wx => s9 = .bool ed ∧ s10 = .bool ed ∧ Aside0 (Below w.heap.size w wx))
  case first =>
    go_region_with (first
      | (go_at_call 14; (with_reducible refine (HX1.out _ (below_drew1 HB3.out)).mono ?_); rintro e w4 ⟨rfl, hb⟩; have HB4 := Aside0.mk (below_step (below_drew1 HB3.out) hb); clear hb)
      | (go_at_call 14; (with_reducible refine (HX2.out _ HB4.out).mono ?_); rintro e w5 ⟨rfl, hb⟩; have HB5 := Aside0.mk (below_step HB4.out hb); clear hb))
    all_goals (go_wp2_with fail; go_meet; exact ⟨rfl, rfl, HB5⟩)
  case rest =>
    obtain ⟨rfl, rfl, HB4⟩ := hcut
    clear HB3 HX1 HX2
    by_cases hk : n = a.size + b.size
    · have k1 : ((n : Int) == (a.size : Int) + (b.size : Int)) = true := beq_iff_eq.2 (by omega)
      have k2 : decide ((n : Int) = (a.size : Int) + (b.size : Int)) = true := decide_eq_true (by omega)
      obtain rfl : ed = true := by rw [HE.out, hsz, hk]; simp
      clear hk
      go_wp2_with (first
        | (go_at_call 14; (with_reducible refine (HS.out _ HB4.out).mono ?_); rintro e w5 ⟨rfl, hb⟩; have HB5 := Aside0.mk (below_step HB4.out hb); clear hb HB4)
        | (go_at_call 17; (with_reducible refine (HRS.out _ HB5.out).mono ?_); rintro e w6 ⟨ar, cr, rfl, hb⟩; have HB6 := Aside0.mk (below_step HB5.out hb); clear hb HB5)
        | (go_at_call 17; (with_reducible refine (HRA.out _ HB6.out).mono ?_); rintro e w7 ⟨aa, ca, rfl, hb⟩; have HB7 := Aside0.mk (below_step HB6.out hb); clear hb HB6)
        | (go_at_call 17; (with_reducible refine (HRB.out _ HB7.out).mono ?_); rintro e w8 ⟨ab, cb, rfl, hb⟩; have HB8 := Aside0.mk (below_step HB7.out hb); clear hb HB7)
        | (go_at_call 15; (with_reducible refine (HW.out _ HB8.out).mono ?_); rintro e w9 ⟨rfl, hb⟩; have HB9 := Aside0.mk (below_step HB8.out hb); clear hb HB8))
      go_ret
      exact ⟨rfl, HB9.out⟩
    · have k1 : ((n : Int) == (a.size : Int) + (b.size : Int)) = false := beq_eq_false_iff_ne.2 (by omega)
      have k2 : decide ((n : Int) = (a.size : Int) + (b.size : Int)) = false := decide_eq_false (by omega)
      have hlt : n < a.size + b.size := by omega
      have hF := HF.out
      clear hk
      go_wp2_with (first
        | (go_at_call 14; (with_reducible refine (HS.out _ HB4.out).mono ?_); rintro e w5 ⟨rfl, hb⟩; have HB5 := Aside0.mk (below_step HB4.out hb); clear hb HB4)
        | (go_at_call 17; (with_reducible refine (HRS.out _ HB5.out).mono ?_); rintro e w6 ⟨ar, cr, rfl, hb⟩; have HB6 := Aside0.mk (below_step HB5.out hb); clear hb HB5)
        | (go_at_call 17; (with_reducible refine (HRA.out _ HB6.out).mono ?_); rintro e w7 ⟨aa, ca, rfl, hb⟩; have HB7 := Aside0.mk (below_step HB6.out hb); clear hb HB6)
        | (go_at_call 17; (with_reducible refine (HRB.out _ HB7.out).mono ?_); rintro e w8 ⟨ab, cb, rfl, hb⟩; have HB8 := Aside0.mk (below_step HB7.out hb); clear hb HB7)
        | (go_at_call 15; (with_reducible refine (HW.out _ HB8.out).mono ?_); rintro e w9 ⟨rfl, hb⟩; have HB9 := Aside0.mk (below_step HB8.out hb); clear hb HB8))
      go_ret
      exact ⟨rfl, HB9.out⟩
/-- UtfParts answers true at every input. -/
theorem parts_all (a b : ByteArray) (at_ : Int) (w : World) (hT : Tabs w) :
    Calls Tryd.prog 3 #[.string a, .string b, .int .i64 at_] w fun e w' => e = .returned (.bool true) ∧ Below w.heap.size w w' := by
  by_cases h : 300 < a.size ∨ 300 < b.size ∨ validU a a.size 0 = false ∨ validU b b.size 0 = false
  · exact parts_out a b at_ w hT h
  · refine parts_in a b at_ w hT (by omega) (by omega) ?_ ?_
    · cases hv : validU a a.size 0
      · exact absurd (.inr (.inr (.inl hv))) h
      · rfl
    · cases hv : validU b b.size 0
      · exact absurd (.inr (.inr (.inr hv))) h
      · rfl
end Go.Proofs.YtpamgedmgjfjjaaDoor.M
