/-
The walk of UtfAll.
-/
import Derived.Test.YtpamgedmgjfjjaaDoorXRef
namespace Go.Proofs.YtpamgedmgjfjjaaDoor.M
open Go.RowKit Go.Proofs.YtpamgedmgjfjjaaDoorW.PrintWords Go.Proofs.YtpamgedmgjfjjaaDoorW.PrintLast Go.Proofs.YtpamgedmgjfjjaaDoorW.PrintMore
set_option linter.unusedVariables false
set_option linter.unusedSimpArgs false

set_option maxHeartbeats 1000000 in
set_option maxRecDepth 100000 in
theorem utfAll_out (s : ByteArray) (at_ r : Int) (A0 : Option Addr) (c0 : Nat) (l : List Int) (w : World) (hT : Tabs w) (h : 1000 < s.size ∨ 300 < l.length) :
    Calls Tryd.prog 6 #[.string s, .int .i64 at_, .int .i32 r, .slice A0 l.length c0] w fun e w' => e = .returned (.bool true) ∧ Below w.heap.size w w' := by
  have HB0 := Aside0.mk (Below.refl w.heap.size w)
  have HW := Aside0.mk (fun w1 (h : Below w.heap.size w w1) => utf_awake_calls w1 (tabs_below hT h))
  clear hT
  by_cases h1 : 1000 < s.size
  · have d1 : decide ((1000 : Int) < (s.size : Int)) = true := decide_eq_true (by omega)
    clear h
    go_enter Tryd.func6, Tryd.ntmps6
    go_wp2_with (go_at_call 15; refine (HW.out _ HB0.out).mono ?_; rintro e w3 ⟨rfl, hb⟩; have HB3 := Aside0.mk (below_step HB0.out hb); clear hb)
    go_ret
    exact ⟨rfl, HB3.out⟩
  · have d1 : decide ((1000 : Int) < (s.size : Int)) = false := decide_eq_false (by omega)
    have d2 : decide ((300 : Int) < (l.length : Int)) = true := decide_eq_true (by omega)
    clear h
    go_enter Tryd.func6, Tryd.ntmps6
    go_wp2_with (go_at_call 15; refine (HW.out _ HB0.out).mono ?_; rintro e w3 ⟨rfl, hb⟩; have HB3 := Aside0.mk (below_step HB0.out hb); clear hb)
    go_ret
    exact ⟨rfl, HB3.out⟩
set_option maxHeartbeats 4000000 in
set_option maxRecDepth 100000 in
theorem utfAll_in (s : ByteArray) (at_ r : Int) (A0 : Option Addr) (c0 : Nat) (l : List Int) (w : World) (hT : Tabs w) (hr0 : Kd.C (Kd.int .i32) w A0 l.length l) (hc0 : l.length ≤ c0) (h1 : s.size ≤ 1000) (h2 : l.length ≤ 300) :
    Calls Tryd.prog 6 #[.string s, .int .i64 at_, .int .i32 r, .slice A0 l.length c0] w fun e w' => e = .returned (.bool true) ∧ Below w.heap.size w w' := by
  have HB0 := Aside0.mk (Below.refl w.heap.size w)
  have HW := Aside0.mk (fun w1 (h : Below w.heap.size w w1) => utf_awake_calls w1 (tabs_below hT h))
  have HR0 := Aside0.mk hr0
  obtain ⟨z, hz⟩ : ∃ z, runeU s at_ = z := ⟨_, rfl⟩
  obtain ⟨jn, hj⟩ : ∃ j, joinU l = j := ⟨_, rfl⟩
  obtain ⟨ra, hra⟩ : ∃ x, rAll s.data.toList = x := ⟨_, rfl⟩
  obtain ⟨vu, hvu⟩ : ∃ x, validU s s.size 0 = x := ⟨_, rfl⟩
  obtain ⟨pu, hpu⟩ : ∃ x, putU r = x := ⟨_, rfl⟩
  have H22 := Aside0.mk (fun w1 (h : Below w.heap.size w w1) => utf_Rune_calls s at_ w1 (tabs_below hT h))
  have H23 := Aside0.mk (fun w1 => erratumref04_Rune.calls 4 s at_ z.1 z.2 w1 (by rw [← hz]; exact refRune s at_ (by omega) 0))
  have H24 := Aside0.mk (fun (A : Option Addr) (c : Nat) (w1 : World) (h : Kd.C (Kd.int .i32) w1 A l.length l) => utf_Join_calls A c l w1 h (by omega))
  have H25 := Aside0.mk (fun (w1 : World) (h : Kd.C (Kd.int .i32) w1 A0 l.length l) => erratumref04_Join.calls (l.length + 2) A0 c0 l jn.1 jn.2 w1 h hc0 (by rw [← hj]; exact refJoin_k l (by omega) _ (Nat.le_refl _)))
  have H17 := Aside0.mk (fun w1 (h : Below w.heap.size w w1) => utf_Runes_calls s w1 (tabs_below hT h) (by omega))
  have H26 := Aside0.mk (fun w1 => erratumref04_Runes.calls (s.size + 5) s ra w1 (by rw [← hra]; exact refRunes_k s (by omega) _ (Nat.le_refl _)))
  have H14 := Aside0.mk (fun w1 (h : Below w.heap.size w w1) => valid_c s vu hvu w1 (tabs_below hT h))
  have H27 := Aside0.mk (fun w1 => erratumref04_Valid.calls (s.size + 5) s vu w1 (by rw [← hvu]; exact refValid_k s (by omega) _ (Nat.le_refl _)))
  have H21 := Aside0.mk (fun w1 => utf_Put_calls r w1)
  have H28 := Aside0.mk (fun w1 => erratumref04_Put.calls 1 r pu w1 (by rw [← hpu]; exact refPut r 0))
  rw [hz] at H22
  rw [hj] at H24
  rw [runesU_all, hra] at H17
  rw [hpu] at H21
  have hrl := rAll_len s.data.toList
  rw [hra, data_length] at hrl
  have d1 : decide ((1000 : Int) < (s.size : Int)) = false := decide_eq_false (by omega)
  have d2 : decide ((300 : Int) < (l.length : Int)) = false := decide_eq_false (by omega)
  have HL2 := Aside0.mk h2
  have hra63 : ra.length ≤ 1000 := by omega
  clear hT hr0 hz hj hra hvu hpu hrl hc0
  go_enter Tryd.func6, Tryd.ntmps6
  go_wp2_with (first
    | (go_at_call 22; (with_reducible refine (H22.out _ HB0.out).mono ?_); rintro e w1 ⟨rfl, hb⟩; have HB1 := Aside0.mk (below_step HB0.out hb); clear hb)
    | (go_at_call 23; (with_reducible refine (H23.out _).mono ?_); rintro e w2 ⟨rfl, hb⟩; have HB2 := Aside0.mk (below_step HB1.out hb.below); clear hb)
    | ((with_reducible refine gate_builtin (b := .append) (xs := #[.const (.slice none 0 0), .tmp 42]) rfl ?_); at_builtin; refine Kd.R_append_rows (Kd.int .i32) (w0 := w) w.heap.size rfl (.const (.slice none 0 0)) (.tmp 42) 25 21 (.int .i32 0) 4 rfl Tryd.underlying25 info21x rfl (by decide) (by omega) (.slice none 0 0) ([] : List Int) l A0 l.length c0 (fun _ => True) (fun _ => False) rfl rfl ?aO (Kd.C_below HR0.out HB2.out) (fun _ _ h => h) (fun _ h => h.elim) (fun _ _ => trivial) HB2.out (below_size HB2.out) ?aL ?_; (case aO => exact Kd.R_nil _ _ _ _ _); (case aL => have := HL2.out; simp; omega); intro v3 w3 ho hb hg hat; obtain ⟨A3, c3, rfl, _, hC3⟩ := Kd.R_reads ho; have HC3 := Aside0.mk hC3; have HB3 := Aside0.mk hb; clear ho hb hg hat hC3)
    | (go_at_call 24; (with_reducible refine (H24.out _ _ _ HC3.out).mono ?_); rintro e w4 ⟨rfl, hb⟩; have HB4 := Aside0.mk (below_step HB3.out hb); clear hb)
    | (go_at_call 25; (with_reducible refine (H25.out _ (Kd.C_below HR0.out HB4.out)).mono ?_); rintro e w5 ⟨rfl, hb⟩; have HB5 := Aside0.mk (below_step HB4.out hb); clear hb)
    | (go_at_call 17; (with_reducible refine (H17.out _ HB5.out).mono ?_); rintro e w6 ⟨v6, rfl, hR, hb⟩; have HB6 := Aside0.mk (below_step HB5.out hb); obtain ⟨A6, c6, rfl, _, hC⟩ := Kd.R_reads hR; have HC6 := Aside0.mk hC; clear hb hR hC)
    | (go_at_call 26; (with_reducible refine (H26.out _).mono ?_); rintro e w7 ⟨v7, rfl, hR, hb⟩; have HC67 := Aside0.mk (Kd.C_below HC6.out hb); have HB7 := Aside0.mk (below_step HB6.out hb); obtain ⟨A7, c7, rfl, _, hC⟩ := Kd.R_reads hR; have HC7 := Aside0.mk hC; clear hb hR hC))
  clear H22 H23 H24 H25 H17 H26 HB0 HB1 HB2 HB3 HB4 HB5 HB6 HC6 HC3
  go_loopw [19] (fun v19 wr => ∃ k : Nat, v19 = .int .i64 k ∧ Aside0 (k ≤ ra.length) ∧ Aside0 (Below w7.heap.size w7 wr)) (fun v19 wr => ra.length - (RowKit.intOf v19).toNat)
  case atStart => exact ⟨0, rfl, ⟨Nat.zero_le _⟩, ⟨Below.refl _ _⟩⟩
  case round =>
    obtain ⟨k, rfl, HK, HB⟩ := hrel
    by_cases hlt : k < ra.length
    · obtain ⟨ad6, e6, hx6⟩ := Kd.at_int (Kd.C_below HC67.out HB.out) (k : Int) (by omega) (by omega)
      obtain ⟨ad7, e7, hx7⟩ := Kd.at_int (Kd.C_below HC7.out HB.out) (k : Int) (by omega) (by omega)
      cases e6
      cases e7
      rw [Int.toNat_natCast] at hx6 hx7
      have b1 : decide ((k : Int) < (ra.length : Int)) = true := decide_eq_true (by omega)
      have b0 : decide ((0 : Int) ≤ (k : Int)) = true := decide_eq_true (by omega)
      generalize rd ra k = x at *
      go_wp2
      go_quiet (fail)
      go_wp2
      go_roundw
      case rel => exact ⟨k + 1, by go_num, ⟨by omega⟩, ⟨pw_below_drewN HB.out _⟩⟩
      case measure => simp [RowKit.intOf]; omega
    · have b1 : decide ((k : Int) < (ra.length : Int)) = false := decide_eq_false (by omega)
      have HB8 := Aside0.mk (below_step HB7.out HB.out)
      go_wp2_with (first
        | (go_at_call 14; (with_reducible refine (H14.out _ HB8.out).mono ?_); rintro e w9 ⟨rfl, hb⟩; have HB9 := Aside0.mk (below_step HB8.out hb); clear hb)
        | (go_at_call 27; (with_reducible refine (H27.out _).mono ?_); rintro e w10 ⟨rfl, hb⟩; have HB10 := Aside0.mk (below_step HB9.out hb); clear hb)
        | (go_at_call 21; (with_reducible refine (H21.out _).mono ?_); rintro e w11 ⟨rfl, rfl⟩)
        | (go_at_call 28; (with_reducible refine (H28.out _).mono ?_); rintro e w12 ⟨rfl, hb⟩; have HB12 := Aside0.mk (below_step HB10.out hb); clear hb)
        | (go_at_call 15; (with_reducible refine (HW.out _ HB12.out).mono ?_); rintro e w13 ⟨rfl, hb⟩; have HB13 := Aside0.mk (below_step HB12.out hb); clear hb))
      go_ret
      exact ⟨rfl, HB13.out⟩
/-- UtfAll answers true at every input. -/
theorem utfAll_all (s : ByteArray) (at_ r : Int) (A0 : Option Addr) (c0 : Nat) (l : List Int) (w : World) (hT : Tabs w) (hr0 : Kd.C (Kd.int .i32) w A0 l.length l) (hc0 : l.length ≤ c0) :
    Calls Tryd.prog 6 #[.string s, .int .i64 at_, .int .i32 r, .slice A0 l.length c0] w fun e w' => e = .returned (.bool true) ∧ Below w.heap.size w w' := by
  by_cases h : 1000 < s.size ∨ 300 < l.length
  · exact utfAll_out s at_ r A0 c0 l w hT h
  · exact utfAll_in s at_ r A0 c0 l w hT hr0 hc0 (by omega) (by omega)
end Go.Proofs.YtpamgedmgjfjjaaDoor.M
