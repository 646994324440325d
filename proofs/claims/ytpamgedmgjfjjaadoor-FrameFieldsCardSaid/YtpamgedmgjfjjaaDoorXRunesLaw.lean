/-
The walk of UtfRunes.
-/
import Derived.Test.YtpamgedmgjfjjaaDoorXEnc
import Derived.Test.YtpamgedmgjfjjaaDoorXParts
namespace Go.Proofs.YtpamgedmgjfjjaaDoor.M
open Go.RowKit Go.Proofs.YtpamgedmgjfjjaaDoorW.PrintWords Go.Proofs.YtpamgedmgjfjjaaDoorW.PrintLast Go.Proofs.YtpamgedmgjfjjaaDoorW.PrintMore
open Go.Lib
set_option linter.unusedVariables false
set_option linter.unusedSimpArgs false

theorem put_none (r : Int) (h : Lib.validRune r = false) (w : World) : Calls Tryd.prog 21 #[.int .i32 r] w fun e w' => e = .returned (.string ⟨#[]⟩) ∧ w' = w := by
  have hc := utf_Put_calls r w
  unfold putU at hc
  rw [h] at hc
  exact hc
theorem put_some (r : Int) (h : Lib.validRune r = true) (w : World) : Calls Tryd.prog 21 #[.int .i32 r] w fun e w' => e = .returned (.string (Utf8.encode r)) ∧ w' = w := by
  have hc := utf_Put_calls r w
  unfold putU at hc
  rw [h] at hc
  exact hc
set_option maxHeartbeats 1000000 in
set_option maxRecDepth 100000 in
/-- A half of a pair. -/
theorem runes_half (n : Int) (head : ByteArray) (w : World) (hT : Tabs w) (r : Nat) (hr : erratumlaw00_Place.f n 1114112 = some (r : Int)) (h1 : 55296 ≤ r) (h2 : r ≤ 57343) :
    Calls Tryd.prog 5 #[.int .i64 n, .string head] w fun e w' => e = .returned (.bool true) ∧ Below w.heap.size w w' := by
  have HT := Aside0.mk hT
  have HK := Aside0.mk (fun w1 => erratumlaw00_Place.calls n 1114112 r w1 hr)
  have HP := Aside0.mk (fun w1 => put_none (r : Int) (by unfold Lib.validRune; rw [decide_eq_false_iff_not]; omega) w1)
  have HW := Aside0.mk (fun w1 (h : Below w.heap.size w w1) => utf_awake_calls w1 (tabs_below HT.out h))
  clear hT hr
  go_enter Tryd.func5, Tryd.ntmps5
  go_wp2_with (first
    | (go_at_call 16; refine (HK.out _).mono ?_; rintro e w1 ⟨rfl, hd⟩; have HB1 := Aside0.mk hd.below; clear hd)
    | (go_at_call 21; refine (HP.out _).mono ?_; rintro e w2 ⟨rfl, rfl⟩)
    | (go_at_call 15; refine (HW.out _ HB1.out).mono ?_; rintro e w3 ⟨rfl, hb⟩; have HB3 := Aside0.mk (below_step HB1.out hb); clear hb))
  go_ret
  exact ⟨rfl, HB3.out⟩
/-- How many of the first edges a rune passes. -/
def wAt (r i : Nat) : Nat := 1 + (if 0 < i ∧ 128 ≤ r then 1 else 0) + (if 1 < i ∧ 2048 ≤ r then 1 else 0) + (if 2 < i ∧ 65536 ≤ r then 1 else 0)
theorem wAt_0 (r : Nat) : wAt r 0 = 1 := by simp [wAt]
theorem wAt_3 (r : Nat) : wAt r 3 = wid r := by
  unfold wAt wid
  repeat' split
  all_goals omega
def edge (i : Nat) : Int := if i = 0 then 128 else if i = 1 then 2048 else 65536
theorem wAt_step (r i : Nat) (hi : i < 3) : wAt r (i + 1) = wAt r i + if edge i ≤ (r : Int) then 1 else 0 := by
  unfold wAt edge
  obtain rfl | rfl | rfl : i = 0 ∨ i = 1 ∨ i = 2 := by omega
  all_goals
    simp
    repeat' split
    all_goals omega
set_option maxHeartbeats 2000000 in
set_option maxRecDepth 100000 in
theorem runes_some (n : Int) (head : ByteArray) (w : World) (hT : Tabs w) (r : Nat) (hr : erratumlaw00_Place.f n 1114112 = some (r : Int)) (hp : Point r) :
    Calls Tryd.prog 5 #[.int .i64 n, .string head] w fun e w' => e = .returned (.bool true) ∧ Below w.heap.size w w' := by
  have hr1 : r ≤ 1114111 := by unfold Point at hp; omega
  have hv : Lib.validRune (r : Int) = true := (valid_point _).2 ⟨by omega, by simpa using hp⟩
  have HT := Aside0.mk hT
  have HK := Aside0.mk (fun w1 => erratumlaw00_Place.calls n 1114112 r w1 hr)
  have HP := Aside0.mk (fun w1 => put_some (r : Int) hv w1)
  have HW := Aside0.mk (fun w1 (h : Below w.heap.size w w1) => utf_awake_calls w1 (tabs_below HT.out h))
  clear hT hr hv
  have hr0 : (0 : Int) ≤ (r : Int) := by omega
  have hr2 : (r : Int) ≤ 1114111 := by omega
  have hcase : (decide ((55296 : Int) ≤ (r : Int)) = false) ∨ (decide ((55296 : Int) ≤ (r : Int)) = true ∧ decide ((r : Int) ≤ 57343) = false) := by
    unfold Point at hp
    rcases hp with h | h
    · exact .inl (decide_eq_false (by omega))
    · exact .inr ⟨decide_eq_true (by omega), decide_eq_false (by omega)⟩
  have HPt := Aside0.mk hp
  clear hp
  rcases hcase with d1 | ⟨d1, d2⟩
  all_goals
    go_enter Tryd.func5, Tryd.ntmps5
    go_wp2_with (first
      | (go_at_call 16; refine (HK.out _).mono ?_; rintro e w1 ⟨rfl, hd⟩; have HB1 := Aside0.mk hd.below; clear hd)
      | (go_at_call 21; refine (HP.out _).mono ?_; rintro e w2 ⟨rfl, rfl⟩))
    have HB2 := Aside0.mk (below_alloc HB1.out (Obj.cells #[Value.int IntKind.i32 128, Value.int IntKind.i32 2048, Value.int IntKind.i32 65536] 21))
    go_loop [7, 32] (fun v7 v32 => ∃ i : Nat, i ≤ 3 ∧ v32 = .int .i64 i ∧ v7 = .int .i64 (wAt r i)) (fun v7 v32 => 3 - (RowKit.intOf v32).toNat)
    case atStart => exact ⟨0, by omega, rfl, by rw [wAt_0]; rfl⟩
    case round =>
      obtain ⟨i, hi, rfl, rfl⟩ := hrel
      by_cases hlt : i < 3
      · have HS := Aside0.mk (wAt_step r i hlt)
        have hw : wAt r i ≤ 4 := by unfold wAt; repeat' split
                                    all_goals omega
        generalize wAt r i = v at *
        obtain rfl | rfl | rfl : i = 0 ∨ i = 1 ∨ i = 2 := by omega
        · by_cases he : (128 : Int) ≤ (r : Int)
          · have e1 : decide ((128 : Int) ≤ (r : Int)) = true := decide_eq_true he
            go_wp2
            go_round
            case rel => exact ⟨1, by omega, by go_num, by rw [HS.out, show edge 0 = 128 from rfl, if_pos he]; go_num⟩
            case measure => simp [RowKit.intOf]
          · have e1 : decide ((128 : Int) ≤ (r : Int)) = false := decide_eq_false he
            go_wp2
            go_round
            case rel => exact ⟨1, by omega, by go_num, by rw [HS.out, show edge 0 = 128 from rfl, if_neg he]; go_num⟩
            case measure => simp [RowKit.intOf]
        · by_cases he : (2048 : Int) ≤ (r : Int)
          · have e1 : decide ((2048 : Int) ≤ (r : Int)) = true := decide_eq_true he
            go_wp2
            go_round
            case rel => exact ⟨2, by omega, by go_num, by rw [HS.out, show edge 1 = 2048 from rfl, if_pos he]; go_num⟩
            case measure => simp [RowKit.intOf]
          · have e1 : decide ((2048 : Int) ≤ (r : Int)) = false := decide_eq_false he
            go_wp2
            go_round
            case rel => exact ⟨2, by omega, by go_num, by rw [HS.out, show edge 1 = 2048 from rfl, if_neg he]; go_num⟩
            case measure => simp [RowKit.intOf]
        · by_cases he : (65536 : Int) ≤ (r : Int)
          · have e1 : decide ((65536 : Int) ≤ (r : Int)) = true := decide_eq_true he
            go_wp2
            go_round
            case rel => exact ⟨3, by omega, by go_num, by rw [HS.out, show edge 2 = 65536 from rfl, if_pos he]; go_num⟩
            case measure => simp [RowKit.intOf]
          · have e1 : decide ((65536 : Int) ≤ (r : Int)) = false := decide_eq_false he
            go_wp2
            go_round
            case rel => exact ⟨3, by omega, by go_num, by rw [HS.out, show edge 2 = 65536 from rfl, if_neg he]; go_num⟩
            case measure => simp [RowKit.intOf]
      · obtain rfl : i = 3 := by omega
        have hv : Lib.validRune (r : Int) = true := (valid_point _).2 ⟨by omega, by simpa using HPt.out⟩
        have he : (Utf8.encode (r : Int)).data.toList = encL r := by rw [encode_L _ hv, Int.toNat_natCast]
        have hsz : (Utf8.encode (r : Int)).size = wid r := by rw [← data_length, he, encL_len]
        have hk1 := wid_pos r
        have hk4 := wid_le r
        have hdrop : (head ++ Utf8.encode (r : Int)).data.toList.drop head.size = encL r ++ [] := by
          simp [he]
        have HR1 := Aside0.mk (fun w1 (h : Below w.heap.size w w1) => rune_b (head ++ Utf8.encode (r : Int)) head.size r (wid r) (runeU_enc _ _ r HPt.out [] hdrop) w1 (tabs_below HT.out h))
        have HR2 := Aside0.mk (runeU_front (Utf8.encode (r : Int)) r HPt.out he (wid r) rfl)
        have HV := Aside0.mk (fun w1 (h : Below w.heap.size w w1) => valid_c (Utf8.encode (r : Int)) true ((validU_good _).2 (by rw [he, ← List.append_nil (encL r)]; exact good_enc r HPt.out .nil)) w1 (tabs_below HT.out h))
        rw [wAt_3 r] at *
        clear hv he hdrop
        generalize wid r = k at *
        by_cases h50 : (50 : Int) < (head.size : Int)
        · have d50 : decide ((50 : Int) < (head.size : Int)) = true := decide_eq_true h50
          go_wp2_with (first
            | (go_at_call 15; refine (HW.out _ HB2.out).mono ?_; rintro e w3 ⟨rfl, hb⟩; have HB3 := Aside0.mk (below_step HB2.out hb); clear hb))
          go_ret
          exact ⟨rfl, HB3.out⟩
        · have d50 : decide ((50 : Int) < (head.size : Int)) = false := decide_eq_false h50
          have hb50 : head.size ≤ 50 := by omega
          have hsum : head.size + k ≤ 9223372036854775807 := by omega
          have hz1 := eq_true hsum
          have hz2 : (9223372036854775807 < head.size + k) = False := eq_false (Nat.not_lt.2 hsum)
          by_cases hk : k = 1
          · have HR3 := Aside0.mk (fun w1 (h : Below w.heap.size w w1) => rune_b ((Utf8.encode (r : Int)).extract 0 (k - 1)) 0 (-1) 0 (by have h2 := HR2.out; rwa [if_pos hk] at h2) w1 (tabs_below HT.out h))
            have e1 : ((k : Int) == 1) = true := beq_iff_eq.2 (by omega)
            have g1 : decide ((1 : Int) < (k : Int)) = false := decide_eq_false (by omega)
            clear hk HR2
            go_wp2_with (first
              | (go_at_call 22; (with_reducible refine (HR1.out _ HB2.out).mono ?_); rintro e w3 ⟨rfl, hb⟩; have HB3 := Aside0.mk (below_step HB2.out hb); clear hb)
              | (go_at_call 22; (with_reducible refine (HR3.out _ HB3.out).mono ?_); rintro e w4 ⟨rfl, hb⟩; have HB4 := Aside0.mk (below_step HB3.out hb); clear hb)
              | (go_at_call 14; (with_reducible refine (HV.out _ HB4.out).mono ?_); rintro e w5 ⟨rfl, hb⟩; have HB5 := Aside0.mk (below_step HB4.out hb); clear hb)
              | (go_at_call 15; (with_reducible refine (HW.out _ HB5.out).mono ?_); rintro e w6 ⟨rfl, hb⟩; have HB6 := Aside0.mk (below_step HB5.out hb); clear hb))
            go_ret
            exact ⟨rfl, HB6.out⟩
          · have HR3 := Aside0.mk (fun w1 (h : Below w.heap.size w w1) => rune_b ((Utf8.encode (r : Int)).extract 0 (k - 1)) 0 (-1) 1 (by have h2 := HR2.out; rwa [if_neg hk] at h2) w1 (tabs_below HT.out h))
            have e1 : ((k : Int) == 1) = false := beq_eq_false_iff_ne.2 (by omega)
            have g1 : decide ((1 : Int) < (k : Int)) = true := decide_eq_true (by omega)
            clear hk HR2
            go_wp2_with (first
              | (go_at_call 22; (with_reducible refine (HR1.out _ HB2.out).mono ?_); rintro e w3 ⟨rfl, hb⟩; have HB3 := Aside0.mk (below_step HB2.out hb); clear hb)
              | (go_at_call 22; (with_reducible refine (HR3.out _ HB3.out).mono ?_); rintro e w4 ⟨rfl, hb⟩; have HB4 := Aside0.mk (below_step HB3.out hb); clear hb)
              | (go_at_call 14; (with_reducible refine (HV.out _ HB4.out).mono ?_); rintro e w5 ⟨rfl, hb⟩; have HB5 := Aside0.mk (below_step HB4.out hb); clear hb)
              | (go_at_call 15; (with_reducible refine (HW.out _ HB5.out).mono ?_); rintro e w6 ⟨rfl, hb⟩; have HB6 := Aside0.mk (below_step HB5.out hb); clear hb))
            go_ret
            exact ⟨rfl, HB6.out⟩
theorem xplace_w (a n : Int) (h0 : 0 < n) (h1 : n ≤ 4000000000000) : ∃ r, erratumlaw00_Place.f a n = some r ∧ 0 ≤ r ∧ r < n := by
  unfold erratumlaw00_Place.f
  have hb := Int.tmod_lt_of_pos a h0
  have hc : -n < Int.tmod a n := by
    have := Int.tmod_lt_of_pos (-a) h0
    rw [Int.neg_tmod] at this
    omega
  rw [if_neg (by omega)]
  split
  · refine ⟨_, rfl, ?_⟩
    unfold wrap64
    omega
  · exact ⟨_, rfl, by omega, hb⟩
/-- UtfRunes answers true at every input. -/
theorem runes_all (n : Int) (head : ByteArray) (w : World) (hT : Tabs w) :
    Calls Tryd.prog 5 #[.int .i64 n, .string head] w fun e w' => e = .returned (.bool true) ∧ Below w.heap.size w w' := by
  obtain ⟨k, hk, hk0, hk1⟩ := xplace_w n 1114112 (by omega) (by omega)
  obtain ⟨r, rfl⟩ := Int.eq_ofNat_of_zero_le hk0
  by_cases h : 55296 ≤ r ∧ r ≤ 57343
  · exact runes_half n head w hT r hk h.1 h.2
  · exact runes_some n head w hT r hk (by unfold Point; omega)
end Go.Proofs.YtpamgedmgjfjjaaDoor.M
