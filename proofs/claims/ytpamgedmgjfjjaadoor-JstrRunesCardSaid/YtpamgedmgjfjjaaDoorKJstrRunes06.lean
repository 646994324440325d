/-
Lemmas for JstrRunes, for every input they speak of: M2.
-/
import Derived.Test.YtpamgedmgjfjjaaDoorKJstrRunes01
import Derived.Test.YtpamgedmgjfjjaaDoorKJstrRunes04
namespace Go.Proofs.YtpamgedmgjfjjaaDoor.M
open Go.RowKit Go.Proofs.YtpamgedmgjfjjaaDoorW.PrintWords Go.Proofs.YtpamgedmgjfjjaaDoorW.PrintLast Go.Proofs.YtpamgedmgjfjjaaDoorW.PrintMore
attribute [local go_sem] max2_int min2_int max_two min_two max_three min_three max_four min_four
set_option linter.unusedVariables false
set_option linter.unusedSimpArgs false
mutual
def erratumref04_Rune.j0 : Nat → ByteArray → Int → Bool → Option (Int × Int)
  | 0, _, _, _ => none
  | k + 1, x0, x1, x16 => if x16 = true then (some ((-1), 0)) else (if 0 ≤ x1 then (if x1 < (x0.size : Int) then (if (wrap32 (bt x0 x1)) < 128 then (some (wrap32 (bt x0 x1), 1)) else (if (wrap32 (bt x0 x1)) ≥ 194 then (if (wrap32 (bt x0 x1)) < 224 then ((erratumref04_cont.f x0 (wrap64 (x1 + 1))).bind fun t133 => (erratumref04_Rune.j1 k x0 x1 (wrap32 (bt x0 x1)) t133)) else (erratumref04_Rune.j1 k x0 x1 (wrap32 (bt x0 x1)) false)) else (erratumref04_Rune.j1 k x0 x1 (wrap32 (bt x0 x1)) false))) else (none)) else (none))
def erratumref04_Rune.j1 : Nat → ByteArray → Int → Int → Bool → Option (Int × Int)
  | 0, _, _, _, _ => none
  | k + 1, x0, x1, x6, x25 => if x25 = true then (if 0 ≤ (wrap64 (x1 + 1)) then (if (wrap64 (x1 + 1)) < (x0.size : Int) then (some (Go.bits .or .i32 (wrap32 ((Go.bits .and .i32 x6 31) * 64)) (wrap32 (Go.bits .and .u8 (bt x0 (wrap64 (x1 + 1))) 63)), 2)) else (none)) else (none)) else (if x6 ≥ 224 then (if x6 < 240 then ((erratumref04_cont.f x0 (wrap64 (x1 + 1))).bind fun t134 => (if t134 = true then ((erratumref04_cont.f x0 (wrap64 (x1 + 2))).bind fun t135 => (erratumref04_Rune.j2 k x0 x1 x6 t135)) else (erratumref04_Rune.j2 k x0 x1 x6 false))) else (erratumref04_Rune.j2 k x0 x1 x6 false)) else (erratumref04_Rune.j2 k x0 x1 x6 false))
def erratumref04_Rune.j2 : Nat → ByteArray → Int → Int → Bool → Option (Int × Int)
  | 0, _, _, _, _ => none
  | k + 1, x0, x1, x6, x48 => if x48 = true then (if 0 ≤ (wrap64 (x1 + 1)) then (if (wrap64 (x1 + 1)) < (x0.size : Int) then (if 0 ≤ (wrap64 (x1 + 2)) then (if (wrap64 (x1 + 2)) < (x0.size : Int) then (if (Go.bits .or .i32 (Go.bits .or .i32 (wrap32 ((Go.bits .and .i32 x6 15) * 4096)) (wrap32 ((wrap32 (Go.bits .and .u8 (bt x0 (wrap64 (x1 + 1))) 63)) * 64))) (wrap32 (Go.bits .and .u8 (bt x0 (wrap64 (x1 + 2))) 63))) ≥ 2048 then (if (Go.bits .or .i32 (Go.bits .or .i32 (wrap32 ((Go.bits .and .i32 x6 15) * 4096)) (wrap32 ((wrap32 (Go.bits .and .u8 (bt x0 (wrap64 (x1 + 1))) 63)) * 64))) (wrap32 (Go.bits .and .u8 (bt x0 (wrap64 (x1 + 2))) 63))) < 55296 then (some (Go.bits .or .i32 (Go.bits .or .i32 (wrap32 ((Go.bits .and .i32 x6 15) * 4096)) (wrap32 ((wrap32 (Go.bits .and .u8 (bt x0 (wrap64 (x1 + 1))) 63)) * 64))) (wrap32 (Go.bits .and .u8 (bt x0 (wrap64 (x1 + 2))) 63)), 3)) else (if (Go.bits .or .i32 (Go.bits .or .i32 (wrap32 ((Go.bits .and .i32 x6 15) * 4096)) (wrap32 ((wrap32 (Go.bits .and .u8 (bt x0 (wrap64 (x1 + 1))) 63)) * 64))) (wrap32 (Go.bits .and .u8 (bt x0 (wrap64 (x1 + 2))) 63))) > 57343 then (some (Go.bits .or .i32 (Go.bits .or .i32 (wrap32 ((Go.bits .and .i32 x6 15) * 4096)) (wrap32 ((wrap32 (Go.bits .and .u8 (bt x0 (wrap64 (x1 + 1))) 63)) * 64))) (wrap32 (Go.bits .and .u8 (bt x0 (wrap64 (x1 + 2))) 63)), 3)) else (some ((-1), 1)))) else (some ((-1), 1))) else (none)) else (none)) else (none)) else (none)) else (if x6 ≥ 240 then (if x6 < 245 then ((erratumref04_cont.f x0 (wrap64 (x1 + 1))).bind fun t136 => (if t136 = true then ((erratumref04_cont.f x0 (wrap64 (x1 + 2))).bind fun t137 => (if t137 = true then ((erratumref04_cont.f x0 (wrap64 (x1 + 3))).bind fun t138 => (erratumref04_Rune.j3 k x0 x1 x6 t138)) else (erratumref04_Rune.j3 k x0 x1 x6 false))) else (erratumref04_Rune.j3 k x0 x1 x6 false))) else (erratumref04_Rune.j3 k x0 x1 x6 false)) else (erratumref04_Rune.j3 k x0 x1 x6 false))
def erratumref04_Rune.j3 : Nat → ByteArray → Int → Int → Bool → Option (Int × Int)
  | 0, _, _, _, _ => none
  | k + 1, x0, x1, x6, x96 => if x96 = true then (if 0 ≤ (wrap64 (x1 + 1)) then (if (wrap64 (x1 + 1)) < (x0.size : Int) then (if 0 ≤ (wrap64 (x1 + 2)) then (if (wrap64 (x1 + 2)) < (x0.size : Int) then (if 0 ≤ (wrap64 (x1 + 3)) then (if (wrap64 (x1 + 3)) < (x0.size : Int) then (if (Go.bits .or .i32 (Go.bits .or .i32 (Go.bits .or .i32 (wrap32 ((Go.bits .and .i32 x6 7) * 262144)) (wrap32 ((wrap32 (Go.bits .and .u8 (bt x0 (wrap64 (x1 + 1))) 63)) * 4096))) (wrap32 ((wrap32 (Go.bits .and .u8 (bt x0 (wrap64 (x1 + 2))) 63)) * 64))) (wrap32 (Go.bits .and .u8 (bt x0 (wrap64 (x1 + 3))) 63))) ≥ 65536 then (if (Go.bits .or .i32 (Go.bits .or .i32 (Go.bits .or .i32 (wrap32 ((Go.bits .and .i32 x6 7) * 262144)) (wrap32 ((wrap32 (Go.bits .and .u8 (bt x0 (wrap64 (x1 + 1))) 63)) * 4096))) (wrap32 ((wrap32 (Go.bits .and .u8 (bt x0 (wrap64 (x1 + 2))) 63)) * 64))) (wrap32 (Go.bits .and .u8 (bt x0 (wrap64 (x1 + 3))) 63))) ≤ 1114111 then (some (Go.bits .or .i32 (Go.bits .or .i32 (Go.bits .or .i32 (wrap32 ((Go.bits .and .i32 x6 7) * 262144)) (wrap32 ((wrap32 (Go.bits .and .u8 (bt x0 (wrap64 (x1 + 1))) 63)) * 4096))) (wrap32 ((wrap32 (Go.bits .and .u8 (bt x0 (wrap64 (x1 + 2))) 63)) * 64))) (wrap32 (Go.bits .and .u8 (bt x0 (wrap64 (x1 + 3))) 63)), 4)) else (some ((-1), 1))) else (some ((-1), 1))) else (none)) else (none)) else (none)) else (none)) else (none)) else (none)) else (some ((-1), 1))
end
def erratumref04_Rune.f (k : Nat) (a0 : ByteArray) (a1 : Int) : Option (Int × Int) := if a1 < 0 then (erratumref04_Rune.j0 k a0 a1 true) else (erratumref04_Rune.j0 k a0 a1 (decide (a1 ≥ (a0.size : Int))))
theorem erratumref04_Rune.mono_l : ∀ k, (∀ y0 y1 y2, LeO (erratumref04_Rune.j0 k y0 y1 y2) (erratumref04_Rune.j0 (k + 1) y0 y1 y2)) ∧ (∀ y0 y1 y2 y3, LeO (erratumref04_Rune.j1 k y0 y1 y2 y3) (erratumref04_Rune.j1 (k + 1) y0 y1 y2 y3)) ∧ (∀ y0 y1 y2 y3, LeO (erratumref04_Rune.j2 k y0 y1 y2 y3) (erratumref04_Rune.j2 (k + 1) y0 y1 y2 y3)) ∧ (∀ y0 y1 y2 y3, LeO (erratumref04_Rune.j3 k y0 y1 y2 y3) (erratumref04_Rune.j3 (k + 1) y0 y1 y2 y3))
  | 0 => ⟨fun _ _ _ r h => by simp [erratumref04_Rune.j0] at h, fun _ _ _ _ r h => by simp [erratumref04_Rune.j1] at h, fun _ _ _ _ r h => by simp [erratumref04_Rune.j2] at h, fun _ _ _ _ r h => by simp [erratumref04_Rune.j3] at h⟩
  | k + 1 => by
    obtain ⟨ih0, ih1, ih2, ih3⟩ := erratumref04_Rune.mono_l k
    refine ⟨?_, ?_, ?_, ?_⟩
    · intro y0 y1 y2
      unfold erratumref04_Rune.j0
      repeat' first
      | (with_reducible exact ih0 _ _ _)
      | (with_reducible exact ih1 _ _ _ _)
      | (with_reducible exact ih2 _ _ _ _)
      | (with_reducible exact ih3 _ _ _ _)
      | (with_reducible exact LeO.refl _)
      | (with_reducible exact LeO.none _)
      | (with_reducible refine LeO.ite ?_ ?_)
      | (with_reducible refine LeO.bind ?_ (fun _ => ?_))
      | exact ih0 _ _ _
      | exact ih1 _ _ _ _
      | exact ih2 _ _ _ _
      | exact ih3 _ _ _ _
      | exact LeO.none _
      | refine LeO.ite ?_ ?_
      | refine LeO.bind ?_ (fun _ => ?_)
    · intro y0 y1 y2 y3
      unfold erratumref04_Rune.j1
      repeat' first
      | (with_reducible exact ih0 _ _ _)
      | (with_reducible exact ih1 _ _ _ _)
      | (with_reducible exact ih2 _ _ _ _)
      | (with_reducible exact ih3 _ _ _ _)
      | (with_reducible exact LeO.refl _)
      | (with_reducible exact LeO.none _)
      | (with_reducible refine LeO.ite ?_ ?_)
      | (with_reducible refine LeO.bind ?_ (fun _ => ?_))
      | exact ih0 _ _ _
      | exact ih1 _ _ _ _
      | exact ih2 _ _ _ _
      | exact ih3 _ _ _ _
      | exact LeO.none _
      | refine LeO.ite ?_ ?_
      | refine LeO.bind ?_ (fun _ => ?_)
    · intro y0 y1 y2 y3
      unfold erratumref04_Rune.j2
      repeat' first
      | (with_reducible exact ih0 _ _ _)
      | (with_reducible exact ih1 _ _ _ _)
      | (with_reducible exact ih2 _ _ _ _)
      | (with_reducible exact ih3 _ _ _ _)
      | (with_reducible exact LeO.refl _)
      | (with_reducible exact LeO.none _)
      | (with_reducible refine LeO.ite ?_ ?_)
      | (with_reducible refine LeO.bind ?_ (fun _ => ?_))
      | exact ih0 _ _ _
      | exact ih1 _ _ _ _
      | exact ih2 _ _ _ _
      | exact ih3 _ _ _ _
      | exact LeO.none _
      | refine LeO.ite ?_ ?_
      | refine LeO.bind ?_ (fun _ => ?_)
    · intro y0 y1 y2 y3
      unfold erratumref04_Rune.j3
      repeat' first
      | (with_reducible exact ih0 _ _ _)
      | (with_reducible exact ih1 _ _ _ _)
      | (with_reducible exact ih2 _ _ _ _)
      | (with_reducible exact ih3 _ _ _ _)
      | (with_reducible exact LeO.refl _)
      | (with_reducible exact LeO.none _)
      | (with_reducible refine LeO.ite ?_ ?_)
      | (with_reducible refine LeO.bind ?_ (fun _ => ?_))
      | exact ih0 _ _ _
      | exact ih1 _ _ _ _
      | exact ih2 _ _ _ _
      | exact ih3 _ _ _ _
      | exact LeO.none _
      | refine LeO.ite ?_ ?_
      | refine LeO.bind ?_ (fun _ => ?_)
theorem erratumref04_Rune.mono : ∀ a0 a1 k, LeO (erratumref04_Rune.f k a0 a1) (erratumref04_Rune.f (k + 1) a0 a1) := by
  intro a0 a1 k
  obtain ⟨ih0, ih1, ih2, ih3⟩ := erratumref04_Rune.mono_l k
  unfold erratumref04_Rune.f
  repeat' first
      | (with_reducible exact ih0 _ _ _)
      | (with_reducible exact ih1 _ _ _ _)
      | (with_reducible exact ih2 _ _ _ _)
      | (with_reducible exact ih3 _ _ _ _)
      | (with_reducible exact LeO.refl _)
      | (with_reducible exact LeO.none _)
      | (with_reducible refine LeO.ite ?_ ?_)
      | (with_reducible refine LeO.bind ?_ (fun _ => ?_))
      | exact ih0 _ _ _
      | exact ih1 _ _ _ _
      | exact ih2 _ _ _ _
      | exact ih3 _ _ _ _
      | exact LeO.none _
      | refine LeO.ite ?_ ?_
      | refine LeO.bind ?_ (fun _ => ?_)
set_option maxHeartbeats 8000000 in
set_option maxRecDepth 100000 in
theorem erratumref04_Rune.calls (k : Nat) (a0 : ByteArray) (a1 : Int) (r1 : Int) (r2 : Int) (w : World) (h : erratumref04_Rune.f k a0 a1 = some (r1, r2)) :
    Calls Tryd.prog 23 #[.string a0, .int .i64 a1] w fun e w' => e = .returned (.tuple #[.int .i32 r1, .int .i64 r2]) ∧ Drawn0 w w' := by
  have H : (if a1 < 0 then (erratumref04_Rune.j0 k a0 a1 true) else (erratumref04_Rune.j0 k a0 a1 (decide (a1 ≥ (a0.size : Int))))) = some (r1, r2) := h
  clear h
  have HC3 := Aside0.mk H
  clear H
  go_enter Tryd.func23, Tryd.ntmps23
  go_upto_region 1 with (fail)
  repeat (go_quiet (fail); go_upto_region 1 with (fail))
  go_cut [16] (fun v16 wc => ∃ (kq : Nat) (x16_2 : Bool), v16 = .bool x16_2 ∧ Aside0 (erratumref04_Rune.j0 kq a0 a1 x16_2 = some (r1, r2)) ∧ Aside0 (kq ≤ k) ∧ Drawn0 w wc)
  case first =>
    have H := HC3.out
    clear HC3
    by_cases c4 : a1 < 0
    · rw [if_pos c4] at H
      have c4b0 : decide (a1 < 0) = true := decide_eq_true c4
      clear c4
      (first | rw [c4b0] | (simp only [i64_w, i32_w]; rw [c4b0]) | skip)
      have H' := Aside0.mk H
      clear H
      go_wp2
      repeat (go_quiet (fail); try go_wp2)
      go_meet
      case rel => exact ⟨_, (true), (by first | rfl | (simp; done) | (simp [*]; done)), H', ⟨by first | omega | exact Nat.le_refl _⟩, by repeat (first | exact Drawn0.refl _ | apply Drawn0.step)⟩
    · rw [if_neg c4] at H
      have c4b0 : decide (a1 < 0) = false := decide_eq_false c4
      clear c4
      (first | rw [c4b0] | (simp only [i64_w, i32_w]; rw [c4b0]) | skip)
      have H' := Aside0.mk H
      clear H
      go_wp2
      repeat (go_quiet (fail); try go_wp2)
      go_meet
      case rel => exact ⟨_, (decide (a1 ≥ (a0.size : Int))), (by first | rfl | (simp; done) | (simp [*]; done)), H', ⟨by first | omega | exact Nat.le_refl _⟩, by repeat (first | exact Drawn0.refl _ | apply Drawn0.step)⟩
  case rest =>
    clear HC3
    try clear c2
    try clear p2
    try clear c4
    try clear c4b0
    obtain ⟨kq, x16_2, rfl, HA, HJ2, ⟨mc2, rfl⟩⟩ := hcut
    cases kq with
    | zero => exact absurd HA.out (by simp [erratumref04_Rune.j0])
    | succ kj2 =>
      have H := HA.out
      clear HA
      simp only [erratumref04_Rune.j0] at H
      by_cases c5 : x16_2 = true
      · subst c5
        have H1 : (some ((-1), 0)) = some (r1, r2) := by rw [if_pos rfl] at H; exact H
        clear H
        have H := H1
        clear H1
        simp only [Option.some.injEq, Prod.mk.injEq] at H
        obtain ⟨rfl, rfl⟩ := H
        go_wp2
        repeat (go_quiet (fail); try go_wp2)
        go_ret2
        exact ⟨by first | rfl | (simp; done) | (simp [*]; done), by repeat (first | exact Drawn0.refl _ | apply Drawn0.step)⟩
      · replace c5 := Bool.eq_false_iff.mpr c5
        subst c5
        have H1 : (if 0 ≤ a1 then (if a1 < (a0.size : Int) then (if (wrap32 (bt a0 a1)) < 128 then (some (wrap32 (bt a0 a1), 1)) else (if (wrap32 (bt a0 a1)) ≥ 194 then (if (wrap32 (bt a0 a1)) < 224 then ((erratumref04_cont.f a0 (wrap64 (a1 + 1))).bind fun t133 => (erratumref04_Rune.j1 kj2 a0 a1 (wrap32 (bt a0 a1)) t133)) else (erratumref04_Rune.j1 kj2 a0 a1 (wrap32 (bt a0 a1)) false)) else (erratumref04_Rune.j1 kj2 a0 a1 (wrap32 (bt a0 a1)) false))) else (none)) else (none)) = some (r1, r2) := by rw [if_neg (show ¬ (false = true) by decide)] at H; exact H
        clear H
        have H := H1
        clear H1
        by_cases c6 : 0 ≤ a1
        · rw [if_pos c6] at H
          have c6b0 : decide (0 ≤ a1) = true := decide_eq_true c6
          clear c6
          by_cases c7 : a1 < (a0.size : Int)
          · rw [if_pos c7] at H
            have c7b0 : decide (a1 < (a0.size : Int)) = true := decide_eq_true c7
            clear c7
            by_cases c9 : (wrap32 (bt a0 a1)) < 128
            · rw [if_pos c9] at H
              have c9b0 : decide ((wrap32 (bt a0 a1)) < 128) = true := decide_eq_true c9
              clear c9
              simp only [Option.some.injEq, Prod.mk.injEq] at H
              obtain ⟨rfl, rfl⟩ := H
              have p8 : 0 ≤ (a1 : Int) := of_decide_eq_true (by first | (with_reducible assumption) | assumption)
              have q8 : a1 < (a0.size : Int) := of_decide_eq_true (by first | (with_reducible assumption) | assumption)
              have hx8 := bt_at a0 a1
              replace p8 := eq_true p8
              replace q8 := eq_true q8
              go_wp2
              repeat (go_quiet (fail); try go_wp2)
              go_ret2
              exact ⟨by first | rfl | (simp; done) | (simp [*]; done), by repeat (first | exact Drawn0.refl _ | apply Drawn0.step)⟩
            · rw [if_neg c9] at H
              have c9b0 : decide ((wrap32 (bt a0 a1)) < 128) = false := decide_eq_false c9
              clear c9
              have HC10 := Aside0.mk H
              clear H
              have p8 : 0 ≤ (a1 : Int) := of_decide_eq_true (by first | (with_reducible assumption) | assumption)
              have q8 : a1 < (a0.size : Int) := of_decide_eq_true (by first | (with_reducible assumption) | assumption)
              have hx8 := bt_at a0 a1
              replace p8 := eq_true p8
              replace q8 := eq_true q8
              go_upto_region 6 with (fail)
              repeat (go_quiet (fail); go_upto_region 6 with (fail))
              go_cut [25] (fun v25 wc => ∃ (kq : Nat) (x25_9 : Bool), v25 = .bool x25_9 ∧ Aside0 (erratumref04_Rune.j1 kq a0 a1 (wrap32 (bt a0 a1)) x25_9 = some (r1, r2)) ∧ Aside0 (kq ≤ kj2) ∧ Drawn0 w wc)
              case first =>
                have H := HC10.out
                clear HC10
                by_cases c11 : (wrap32 (bt a0 a1)) ≥ 194
                · rw [if_pos c11] at H
                  have c11b0 : decide (194 ≤ (wrap32 (bt a0 a1))) = true := decide_eq_true c11
                  clear c11
                  (first | rw [c11b0] | (simp only [i64_w, i32_w]; rw [c11b0]) | skip)
                  by_cases c12 : (wrap32 (bt a0 a1)) < 224
                  · rw [if_pos c12] at H
                    have c12b0 : decide ((wrap32 (bt a0 a1)) < 224) = true := decide_eq_true c12
                    clear c12
                    replace H := Option.bind_eq_some_iff.mp H
                    obtain ⟨t133, A130, H⟩ := H
                    replace H : (erratumref04_Rune.j1 kj2 a0 a1 (wrap32 (bt a0 a1)) t133) = some (r1, r2) := H
                    have A13 := Aside0.mk A130
                    clear A130
                    have H' := Aside0.mk H
                    clear H
                    go_wp2_with (first | (go_at_call 49; (with_reducible refine (erratumref04_cont.calls a0 (wrap64 (a1 + 1)) t133 _ A13.out).mono ?_); rintro e w' ⟨rfl, ⟨nd, rfl⟩⟩; (try first | exact ⟨rfl, _, World.drewN_drewN _ _ _⟩ | exact ⟨rfl, _, Eq.trans (World.drewN_drewN _ _ _) (congrArg (World.drewN _) (Nat.add_assoc _ _ _))⟩)))
                    repeat (go_quiet (first | (go_at_call 49; (with_reducible refine (erratumref04_cont.calls a0 (wrap64 (a1 + 1)) t133 _ A13.out).mono ?_); rintro e w' ⟨rfl, ⟨nd, rfl⟩⟩; (try first | exact ⟨rfl, _, World.drewN_drewN _ _ _⟩ | exact ⟨rfl, _, Eq.trans (World.drewN_drewN _ _ _) (congrArg (World.drewN _) (Nat.add_assoc _ _ _))⟩))); try go_wp2_with (first | (go_at_call 49; (with_reducible refine (erratumref04_cont.calls a0 (wrap64 (a1 + 1)) t133 _ A13.out).mono ?_); rintro e w' ⟨rfl, ⟨nd, rfl⟩⟩; (try first | exact ⟨rfl, _, World.drewN_drewN _ _ _⟩ | exact ⟨rfl, _, Eq.trans (World.drewN_drewN _ _ _) (congrArg (World.drewN _) (Nat.add_assoc _ _ _))⟩))))
                    go_meet
                    case rel => exact ⟨_, (t133), (by first | rfl | (simp; done) | (simp [*]; done)), H', ⟨by have := HJ2.out; first | omega | exact Nat.le_refl _⟩, by repeat (first | exact Drawn0.refl _ | apply Drawn0.step)⟩
                  · rw [if_neg c12] at H
                    have c12b0 : decide ((wrap32 (bt a0 a1)) < 224) = false := decide_eq_false c12
                    clear c12
                    have H' := Aside0.mk H
                    clear H
                    go_wp2
                    repeat (go_quiet (fail); try go_wp2)
                    go_meet
                    case rel => exact ⟨_, (false), (by first | rfl | (simp; done) | (simp [*]; done)), H', ⟨by have := HJ2.out; first | omega | exact Nat.le_refl _⟩, by repeat (first | exact Drawn0.refl _ | apply Drawn0.step)⟩
                · rw [if_neg c11] at H
                  have c11b0 : decide (194 ≤ (wrap32 (bt a0 a1))) = false := decide_eq_false c11
                  clear c11
                  (first | rw [c11b0] | (simp only [i64_w, i32_w]; rw [c11b0]) | skip)
                  have H' := Aside0.mk H
                  clear H
                  go_wp2
                  repeat (go_quiet (fail); try go_wp2)
                  go_meet
                  case rel => exact ⟨_, (false), (by first | rfl | (simp; done) | (simp [*]; done)), H', ⟨by have := HJ2.out; first | omega | exact Nat.le_refl _⟩, by repeat (first | exact Drawn0.refl _ | apply Drawn0.step)⟩
              case rest =>
                clear HC10
                try clear c1
                try clear c2
                try clear p2
                try clear p3
                try clear c4
                try clear c4b0
                try clear c5
                try clear c6
                try clear c6b0
                try clear p6
                try clear c7
                try clear c7b0
                try clear p8
                try clear q8
                try clear hx8
                try clear c9
                try clear c9b0
                try clear c11
                try clear c11b0
                try clear c12
                try clear c12b0
                try clear p2
                try clear p8
                try clear q8
                obtain ⟨kq, x25_9, rfl, HA, HJ9, ⟨mc9, rfl⟩⟩ := hcut
                cases kq with
                | zero => exact absurd HA.out (by simp [erratumref04_Rune.j1])
                | succ kj9 =>
                  have H := HA.out
                  clear HA
                  simp only [erratumref04_Rune.j1] at H
                  by_cases c14 : x25_9 = true
                  · subst c14
                    have H1 : (if 0 ≤ (wrap64 (a1 + 1)) then (if (wrap64 (a1 + 1)) < (a0.size : Int) then (some (Go.bits .or .i32 (wrap32 ((Go.bits .and .i32 (wrap32 (bt a0 a1)) 31) * 64)) (wrap32 (Go.bits .and .u8 (bt a0 (wrap64 (a1 + 1))) 63)), 2)) else (none)) else (none)) = some (r1, r2) := by rw [if_pos rfl] at H; exact H
                    clear H
                    have H := H1
                    clear H1
                    obtain ⟨ji15, hji15⟩ : ∃ j_ : Int, (wrap64 (a1 + 1)) = j_ := ⟨_, rfl⟩
                    replace H : (if 0 ≤ (ji15) then (if (ji15) < (a0.size : Int) then (some (Go.bits .or .i32 (wrap32 ((Go.bits .and .i32 (wrap32 (bt a0 a1)) 31) * 64)) (wrap32 (Go.bits .and .u8 (bt a0 (ji15)) 63)), 2)) else (none)) else (none)) = some (r1, r2) := by first | (rw [hji15] at H; exact H) | (simp only [hji15] at H ⊢; exact H)
                    have hji15w : (IntKind.i64.wrap (a1 + 1)) = ji15 := (i64_w _).trans hji15
                    by_cases c16 : 0 ≤ (ji15)
                    · rw [if_pos c16] at H
                      have c16b0 : decide (0 ≤ (ji15)) = true := decide_eq_true c16
                      clear c16
                      by_cases c17 : (ji15) < (a0.size : Int)
                      · rw [if_pos c17] at H
                        have c17b0 : decide ((ji15) < (a0.size : Int)) = true := decide_eq_true c17
                        clear c17
                        simp only [Option.some.injEq, Prod.mk.injEq] at H
                        obtain ⟨rfl, rfl⟩ := H
                        have p18 : 0 ≤ ((ji15) : Int) := of_decide_eq_true (by first | (with_reducible assumption) | assumption)
                        have q18 : (ji15) < (a0.size : Int) := of_decide_eq_true (by first | (with_reducible assumption) | assumption)
                        have hx18 := bt_at a0 (ji15)
                        replace p18 := eq_true p18
                        replace q18 := eq_true q18
                        go_wp2
                        repeat (go_quiet (fail); try go_wp2)
                        go_ret2
                        exact ⟨by first | rfl | (simp; done) | (simp only [← hji15] <;> (first | rfl | simp)) | (simp [*]; done), by repeat (first | exact Drawn0.refl _ | apply Drawn0.step)⟩
                      · rw [if_neg c17] at H
                        exact absurd H (by simp)
                    · rw [if_neg c16] at H
                      exact absurd H (by simp)
                  · replace c14 := Bool.eq_false_iff.mpr c14
                    subst c14
                    have H1 : (if (wrap32 (bt a0 a1)) ≥ 224 then (if (wrap32 (bt a0 a1)) < 240 then ((erratumref04_cont.f a0 (wrap64 (a1 + 1))).bind fun t134 => (if t134 = true then ((erratumref04_cont.f a0 (wrap64 (a1 + 2))).bind fun t135 => (erratumref04_Rune.j2 kj9 a0 a1 (wrap32 (bt a0 a1)) t135)) else (erratumref04_Rune.j2 kj9 a0 a1 (wrap32 (bt a0 a1)) false))) else (erratumref04_Rune.j2 kj9 a0 a1 (wrap32 (bt a0 a1)) false)) else (erratumref04_Rune.j2 kj9 a0 a1 (wrap32 (bt a0 a1)) false)) = some (r1, r2) := by rw [if_neg (show ¬ (false = true) by decide)] at H; exact H
                    clear H
                    have H := H1
                    clear H1
                    have HC19 := Aside0.mk H
                    clear H
                    go_upto_region 8 with (fail)
                    repeat (go_quiet (fail); go_upto_region 8 with (fail))
                    go_cut [48] (fun v48 wc => ∃ (kq : Nat) (x48_18 : Bool), v48 = .bool x48_18 ∧ Aside0 (erratumref04_Rune.j2 kq a0 a1 (wrap32 (bt a0 a1)) x48_18 = some (r1, r2)) ∧ Aside0 (kq ≤ kj9) ∧ Drawn0 w wc)
                    case first =>
                      have H := HC19.out
                      clear HC19
                      by_cases c20 : (wrap32 (bt a0 a1)) ≥ 224
                      · rw [if_pos c20] at H
                        have c20b0 : decide (224 ≤ (wrap32 (bt a0 a1))) = true := decide_eq_true c20
                        clear c20
                        (first | rw [c20b0] | (simp only [i64_w, i32_w]; rw [c20b0]) | skip)
                        by_cases c21 : (wrap32 (bt a0 a1)) < 240
                        · rw [if_pos c21] at H
                          have c21b0 : decide ((wrap32 (bt a0 a1)) < 240) = true := decide_eq_true c21
                          clear c21
                          replace H := Option.bind_eq_some_iff.mp H
                          obtain ⟨t134, A220, H⟩ := H
                          replace H : (if t134 = true then ((erratumref04_cont.f a0 (wrap64 (a1 + 2))).bind fun t135 => (erratumref04_Rune.j2 kj9 a0 a1 (wrap32 (bt a0 a1)) t135)) else (erratumref04_Rune.j2 kj9 a0 a1 (wrap32 (bt a0 a1)) false)) = some (r1, r2) := H
                          have A22 := Aside0.mk A220
                          clear A220
                          by_cases c23 : t134 = true
                          · subst c23
                            have H1 : ((erratumref04_cont.f a0 (wrap64 (a1 + 2))).bind fun t135 => (erratumref04_Rune.j2 kj9 a0 a1 (wrap32 (bt a0 a1)) t135)) = some (r1, r2) := by rw [if_pos rfl] at H; exact H
                            clear H
                            have H := H1
                            clear H1
                            replace H := Option.bind_eq_some_iff.mp H
                            obtain ⟨t135, A240, H⟩ := H
                            replace H : (erratumref04_Rune.j2 kj9 a0 a1 (wrap32 (bt a0 a1)) t135) = some (r1, r2) := H
                            have A24 := Aside0.mk A240
                            clear A240
                            have H' := Aside0.mk H
                            clear H
                            go_wp2_with (first | (go_at_call 49; (with_reducible refine (erratumref04_cont.calls a0 (wrap64 (a1 + 1)) true _ A22.out).mono ?_); rintro e w' ⟨rfl, ⟨nd, rfl⟩⟩; (try first | exact ⟨rfl, _, World.drewN_drewN _ _ _⟩ | exact ⟨rfl, _, Eq.trans (World.drewN_drewN _ _ _) (congrArg (World.drewN _) (Nat.add_assoc _ _ _))⟩)) | (go_at_call 49; (with_reducible refine (erratumref04_cont.calls a0 (wrap64 (a1 + 2)) t135 _ A24.out).mono ?_); rintro e w' ⟨rfl, ⟨nd, rfl⟩⟩; (try first | exact ⟨rfl, _, World.drewN_drewN _ _ _⟩ | exact ⟨rfl, _, Eq.trans (World.drewN_drewN _ _ _) (congrArg (World.drewN _) (Nat.add_assoc _ _ _))⟩)))
                            repeat (go_quiet (first | (go_at_call 49; (with_reducible refine (erratumref04_cont.calls a0 (wrap64 (a1 + 1)) true _ A22.out).mono ?_); rintro e w' ⟨rfl, ⟨nd, rfl⟩⟩; (try first | exact ⟨rfl, _, World.drewN_drewN _ _ _⟩ | exact ⟨rfl, _, Eq.trans (World.drewN_drewN _ _ _) (congrArg (World.drewN _) (Nat.add_assoc _ _ _))⟩)) | (go_at_call 49; (with_reducible refine (erratumref04_cont.calls a0 (wrap64 (a1 + 2)) t135 _ A24.out).mono ?_); rintro e w' ⟨rfl, ⟨nd, rfl⟩⟩; (try first | exact ⟨rfl, _, World.drewN_drewN _ _ _⟩ | exact ⟨rfl, _, Eq.trans (World.drewN_drewN _ _ _) (congrArg (World.drewN _) (Nat.add_assoc _ _ _))⟩))); try go_wp2_with (first | (go_at_call 49; (with_reducible refine (erratumref04_cont.calls a0 (wrap64 (a1 + 1)) true _ A22.out).mono ?_); rintro e w' ⟨rfl, ⟨nd, rfl⟩⟩; (try first | exact ⟨rfl, _, World.drewN_drewN _ _ _⟩ | exact ⟨rfl, _, Eq.trans (World.drewN_drewN _ _ _) (congrArg (World.drewN _) (Nat.add_assoc _ _ _))⟩)) | (go_at_call 49; (with_reducible refine (erratumref04_cont.calls a0 (wrap64 (a1 + 2)) t135 _ A24.out).mono ?_); rintro e w' ⟨rfl, ⟨nd, rfl⟩⟩; (try first | exact ⟨rfl, _, World.drewN_drewN _ _ _⟩ | exact ⟨rfl, _, Eq.trans (World.drewN_drewN _ _ _) (congrArg (World.drewN _) (Nat.add_assoc _ _ _))⟩))))
                            go_meet
                            case rel => exact ⟨_, (t135), (by first | rfl | (simp; done) | (simp [*]; done)), H', ⟨by have := HJ2.out; have := HJ9.out; first | omega | exact Nat.le_refl _⟩, by repeat (first | exact Drawn0.refl _ | apply Drawn0.step)⟩
                          · replace c23 := Bool.eq_false_iff.mpr c23
                            subst c23
                            have H1 : (erratumref04_Rune.j2 kj9 a0 a1 (wrap32 (bt a0 a1)) false) = some (r1, r2) := by rw [if_neg (show ¬ (false = true) by decide)] at H; exact H
                            clear H
                            have H := H1
                            clear H1
                            have H' := Aside0.mk H
                            clear H
                            go_wp2_with (first | (go_at_call 49; (with_reducible refine (erratumref04_cont.calls a0 (wrap64 (a1 + 1)) false _ A22.out).mono ?_); rintro e w' ⟨rfl, ⟨nd, rfl⟩⟩; (try first | exact ⟨rfl, _, World.drewN_drewN _ _ _⟩ | exact ⟨rfl, _, Eq.trans (World.drewN_drewN _ _ _) (congrArg (World.drewN _) (Nat.add_assoc _ _ _))⟩)))
                            repeat (go_quiet (first | (go_at_call 49; (with_reducible refine (erratumref04_cont.calls a0 (wrap64 (a1 + 1)) false _ A22.out).mono ?_); rintro e w' ⟨rfl, ⟨nd, rfl⟩⟩; (try first | exact ⟨rfl, _, World.drewN_drewN _ _ _⟩ | exact ⟨rfl, _, Eq.trans (World.drewN_drewN _ _ _) (congrArg (World.drewN _) (Nat.add_assoc _ _ _))⟩))); try go_wp2_with (first | (go_at_call 49; (with_reducible refine (erratumref04_cont.calls a0 (wrap64 (a1 + 1)) false _ A22.out).mono ?_); rintro e w' ⟨rfl, ⟨nd, rfl⟩⟩; (try first | exact ⟨rfl, _, World.drewN_drewN _ _ _⟩ | exact ⟨rfl, _, Eq.trans (World.drewN_drewN _ _ _) (congrArg (World.drewN _) (Nat.add_assoc _ _ _))⟩))))
                            go_meet
                            case rel => exact ⟨_, (false), (by first | rfl | (simp; done) | (simp [*]; done)), H', ⟨by have := HJ2.out; have := HJ9.out; first | omega | exact Nat.le_refl _⟩, by repeat (first | exact Drawn0.refl _ | apply Drawn0.step)⟩
                        · rw [if_neg c21] at H
                          have c21b0 : decide ((wrap32 (bt a0 a1)) < 240) = false := decide_eq_false c21
                          clear c21
                          have H' := Aside0.mk H
                          clear H
                          go_wp2
                          repeat (go_quiet (fail); try go_wp2)
                          go_meet
                          case rel => exact ⟨_, (false), (by first | rfl | (simp; done) | (simp [*]; done)), H', ⟨by have := HJ2.out; have := HJ9.out; first | omega | exact Nat.le_refl _⟩, by repeat (first | exact Drawn0.refl _ | apply Drawn0.step)⟩
                      · rw [if_neg c20] at H
                        have c20b0 : decide (224 ≤ (wrap32 (bt a0 a1))) = false := decide_eq_false c20
                        clear c20
                        (first | rw [c20b0] | (simp only [i64_w, i32_w]; rw [c20b0]) | skip)
                        have H' := Aside0.mk H
                        clear H
                        go_wp2
                        repeat (go_quiet (fail); try go_wp2)
                        go_meet
                        case rel => exact ⟨_, (false), (by first | rfl | (simp; done) | (simp [*]; done)), H', ⟨by have := HJ2.out; have := HJ9.out; first | omega | exact Nat.le_refl _⟩, by repeat (first | exact Drawn0.refl _ | apply Drawn0.step)⟩
                    case rest =>
                      clear HC19
                      try clear c1
                      try clear p1
                      try clear q1
                      try clear hx1
                      try clear c2
                      try clear p2
                      try clear p3
                      try clear c4
                      try clear c4b0
                      try clear c5
                      try clear c6
                      try clear c6b0
                      try clear p6
                      try clear c7
                      try clear c7b0
                      try clear p8
                      try clear q8
                      try clear hx8
                      try clear c9
                      try clear c9b0
                      try clear c11
                      try clear c11b0
                      try clear c12
                      try clear c12b0
                      try clear c14
                      try clear c16
                      try clear c16b0
                      try clear c17
                      try clear c17b0
                      try clear p18
                      try clear q18
                      try clear hx18
                      try clear c20
                      try clear c20b0
                      try clear c21
                      try clear c21b0
                      try clear c23
                      try clear p18
                      try clear p2
                      try clear p3
                      try clear p6
                      try clear p8
                      try clear q18
                      try clear q8
                      obtain ⟨kq, x48_18, rfl, HA, HJ18, ⟨mc18, rfl⟩⟩ := hcut
                      cases kq with
                      | zero => exact absurd HA.out (by simp [erratumref04_Rune.j2])
                      | succ kj18 =>
                        have H := HA.out
                        clear HA
                        simp only [erratumref04_Rune.j2] at H
                        by_cases c25 : x48_18 = true
                        · subst c25
                          have H1 : (if 0 ≤ (wrap64 (a1 + 1)) then (if (wrap64 (a1 + 1)) < (a0.size : Int) then (if 0 ≤ (wrap64 (a1 + 2)) then (if (wrap64 (a1 + 2)) < (a0.size : Int) then (if (Go.bits .or .i32 (Go.bits .or .i32 (wrap32 ((Go.bits .and .i32 (wrap32 (bt a0 a1)) 15) * 4096)) (wrap32 ((wrap32 (Go.bits .and .u8 (bt a0 (wrap64 (a1 + 1))) 63)) * 64))) (wrap32 (Go.bits .and .u8 (bt a0 (wrap64 (a1 + 2))) 63))) ≥ 2048 then (if (Go.bits .or .i32 (Go.bits .or .i32 (wrap32 ((Go.bits .and .i32 (wrap32 (bt a0 a1)) 15) * 4096)) (wrap32 ((wrap32 (Go.bits .and .u8 (bt a0 (wrap64 (a1 + 1))) 63)) * 64))) (wrap32 (Go.bits .and .u8 (bt a0 (wrap64 (a1 + 2))) 63))) < 55296 then (some (Go.bits .or .i32 (Go.bits .or .i32 (wrap32 ((Go.bits .and .i32 (wrap32 (bt a0 a1)) 15) * 4096)) (wrap32 ((wrap32 (Go.bits .and .u8 (bt a0 (wrap64 (a1 + 1))) 63)) * 64))) (wrap32 (Go.bits .and .u8 (bt a0 (wrap64 (a1 + 2))) 63)), 3)) else (if (Go.bits .or .i32 (Go.bits .or .i32 (wrap32 ((Go.bits .and .i32 (wrap32 (bt a0 a1)) 15) * 4096)) (wrap32 ((wrap32 (Go.bits .and .u8 (bt a0 (wrap64 (a1 + 1))) 63)) * 64))) (wrap32 (Go.bits .and .u8 (bt a0 (wrap64 (a1 + 2))) 63))) > 57343 then (some (Go.bits .or .i32 (Go.bits .or .i32 (wrap32 ((Go.bits .and .i32 (wrap32 (bt a0 a1)) 15) * 4096)) (wrap32 ((wrap32 (Go.bits .and .u8 (bt a0 (wrap64 (a1 + 1))) 63)) * 64))) (wrap32 (Go.bits .and .u8 (bt a0 (wrap64 (a1 + 2))) 63)), 3)) else (some ((-1), 1)))) else (some ((-1), 1))) else (none)) else (none)) else (none)) else (none)) = some (r1, r2) := by rw [if_pos rfl] at H; exact H
                          clear H
                          have H := H1
                          clear H1
                          obtain ⟨ji26, hji26⟩ : ∃ j_ : Int, (wrap64 (a1 + 1)) = j_ := ⟨_, rfl⟩
                          replace H : (if 0 ≤ (ji26) then (if (ji26) < (a0.size : Int) then (if 0 ≤ (wrap64 (a1 + 2)) then (if (wrap64 (a1 + 2)) < (a0.size : Int) then (if (Go.bits .or .i32 (Go.bits .or .i32 (wrap32 ((Go.bits .and .i32 (wrap32 (bt a0 a1)) 15) * 4096)) (wrap32 ((wrap32 (Go.bits .and .u8 (bt a0 (ji26)) 63)) * 64))) (wrap32 (Go.bits .and .u8 (bt a0 (wrap64 (a1 + 2))) 63))) ≥ 2048 then (if (Go.bits .or .i32 (Go.bits .or .i32 (wrap32 ((Go.bits .and .i32 (wrap32 (bt a0 a1)) 15) * 4096)) (wrap32 ((wrap32 (Go.bits .and .u8 (bt a0 (ji26)) 63)) * 64))) (wrap32 (Go.bits .and .u8 (bt a0 (wrap64 (a1 + 2))) 63))) < 55296 then (some (Go.bits .or .i32 (Go.bits .or .i32 (wrap32 ((Go.bits .and .i32 (wrap32 (bt a0 a1)) 15) * 4096)) (wrap32 ((wrap32 (Go.bits .and .u8 (bt a0 (ji26)) 63)) * 64))) (wrap32 (Go.bits .and .u8 (bt a0 (wrap64 (a1 + 2))) 63)), 3)) else (if (Go.bits .or .i32 (Go.bits .or .i32 (wrap32 ((Go.bits .and .i32 (wrap32 (bt a0 a1)) 15) * 4096)) (wrap32 ((wrap32 (Go.bits .and .u8 (bt a0 (ji26)) 63)) * 64))) (wrap32 (Go.bits .and .u8 (bt a0 (wrap64 (a1 + 2))) 63))) > 57343 then (some (Go.bits .or .i32 (Go.bits .or .i32 (wrap32 ((Go.bits .and .i32 (wrap32 (bt a0 a1)) 15) * 4096)) (wrap32 ((wrap32 (Go.bits .and .u8 (bt a0 (ji26)) 63)) * 64))) (wrap32 (Go.bits .and .u8 (bt a0 (wrap64 (a1 + 2))) 63)), 3)) else (some ((-1), 1)))) else (some ((-1), 1))) else (none)) else (none)) else (none)) else (none)) = some (r1, r2) := by first | (rw [hji26] at H; exact H) | (simp only [hji26] at H ⊢; exact H)
                          have hji26w : (IntKind.i64.wrap (a1 + 1)) = ji26 := (i64_w _).trans hji26
                          by_cases c27 : 0 ≤ (ji26)
                          · rw [if_pos c27] at H
                            have c27b0 : decide (0 ≤ (ji26)) = true := decide_eq_true c27
                            clear c27
                            by_cases c28 : (ji26) < (a0.size : Int)
                            · rw [if_pos c28] at H
                              have c28b0 : decide ((ji26) < (a0.size : Int)) = true := decide_eq_true c28
                              clear c28
                              obtain ⟨ji30, hji30⟩ : ∃ j_ : Int, (wrap64 (a1 + 2)) = j_ := ⟨_, rfl⟩
                              replace H : (if 0 ≤ (ji30) then (if (ji30) < (a0.size : Int) then (if (Go.bits .or .i32 (Go.bits .or .i32 (wrap32 ((Go.bits .and .i32 (wrap32 (bt a0 a1)) 15) * 4096)) (wrap32 ((wrap32 (Go.bits .and .u8 (bt a0 (ji26)) 63)) * 64))) (wrap32 (Go.bits .and .u8 (bt a0 (ji30)) 63))) ≥ 2048 then (if (Go.bits .or .i32 (Go.bits .or .i32 (wrap32 ((Go.bits .and .i32 (wrap32 (bt a0 a1)) 15) * 4096)) (wrap32 ((wrap32 (Go.bits .and .u8 (bt a0 (ji26)) 63)) * 64))) (wrap32 (Go.bits .and .u8 (bt a0 (ji30)) 63))) < 55296 then (some (Go.bits .or .i32 (Go.bits .or .i32 (wrap32 ((Go.bits .and .i32 (wrap32 (bt a0 a1)) 15) * 4096)) (wrap32 ((wrap32 (Go.bits .and .u8 (bt a0 (ji26)) 63)) * 64))) (wrap32 (Go.bits .and .u8 (bt a0 (ji30)) 63)), 3)) else (if (Go.bits .or .i32 (Go.bits .or .i32 (wrap32 ((Go.bits .and .i32 (wrap32 (bt a0 a1)) 15) * 4096)) (wrap32 ((wrap32 (Go.bits .and .u8 (bt a0 (ji26)) 63)) * 64))) (wrap32 (Go.bits .and .u8 (bt a0 (ji30)) 63))) > 57343 then (some (Go.bits .or .i32 (Go.bits .or .i32 (wrap32 ((Go.bits .and .i32 (wrap32 (bt a0 a1)) 15) * 4096)) (wrap32 ((wrap32 (Go.bits .and .u8 (bt a0 (ji26)) 63)) * 64))) (wrap32 (Go.bits .and .u8 (bt a0 (ji30)) 63)), 3)) else (some ((-1), 1)))) else (some ((-1), 1))) else (none)) else (none)) = some (r1, r2) := by first | (rw [hji30] at H; exact H) | (simp only [hji30] at H ⊢; exact H)
                              have hji30w : (IntKind.i64.wrap (a1 + 2)) = ji30 := (i64_w _).trans hji30
                              by_cases c31 : 0 ≤ (ji30)
                              · rw [if_pos c31] at H
                                have c31b0 : decide (0 ≤ (ji30)) = true := decide_eq_true c31
                                clear c31
                                by_cases c32 : (ji30) < (a0.size : Int)
                                · rw [if_pos c32] at H
                                  have c32b0 : decide ((ji30) < (a0.size : Int)) = true := decide_eq_true c32
                                  clear c32
                                  by_cases c34 : (Go.bits .or .i32 (Go.bits .or .i32 (wrap32 ((Go.bits .and .i32 (wrap32 (bt a0 a1)) 15) * 4096)) (wrap32 ((wrap32 (Go.bits .and .u8 (bt a0 (ji26)) 63)) * 64))) (wrap32 (Go.bits .and .u8 (bt a0 (ji30)) 63))) ≥ 2048
                                  · rw [if_pos c34] at H
                                    have c34b0 : decide (2048 ≤ (Go.bits .or .i32 (Go.bits .or .i32 (wrap32 ((Go.bits .and .i32 (wrap32 (bt a0 a1)) 15) * 4096)) (wrap32 ((wrap32 (Go.bits .and .u8 (bt a0 (ji26)) 63)) * 64))) (wrap32 (Go.bits .and .u8 (bt a0 (ji30)) 63)))) = true := decide_eq_true c34
                                    clear c34
                                    by_cases c35 : (Go.bits .or .i32 (Go.bits .or .i32 (wrap32 ((Go.bits .and .i32 (wrap32 (bt a0 a1)) 15) * 4096)) (wrap32 ((wrap32 (Go.bits .and .u8 (bt a0 (ji26)) 63)) * 64))) (wrap32 (Go.bits .and .u8 (bt a0 (ji30)) 63))) < 55296
                                    · rw [if_pos c35] at H
                                      have c35b0 : decide ((Go.bits .or .i32 (Go.bits .or .i32 (wrap32 ((Go.bits .and .i32 (wrap32 (bt a0 a1)) 15) * 4096)) (wrap32 ((wrap32 (Go.bits .and .u8 (bt a0 (ji26)) 63)) * 64))) (wrap32 (Go.bits .and .u8 (bt a0 (ji30)) 63))) < 55296) = true := decide_eq_true c35
                                      clear c35
                                      simp only [Option.some.injEq, Prod.mk.injEq] at H
                                      obtain ⟨rfl, rfl⟩ := H
                                      have p29 : 0 ≤ ((ji26) : Int) := of_decide_eq_true (by first | (with_reducible assumption) | assumption)
                                      have q29 : (ji26) < (a0.size : Int) := of_decide_eq_true (by first | (with_reducible assumption) | assumption)
                                      have hx29 := bt_at a0 (ji26)
                                      replace p29 := eq_true p29
                                      replace q29 := eq_true q29
                                      have p33 : 0 ≤ ((ji30) : Int) := of_decide_eq_true (by first | (with_reducible assumption) | assumption)
                                      have q33 : (ji30) < (a0.size : Int) := of_decide_eq_true (by first | (with_reducible assumption) | assumption)
                                      have hx33 := bt_at a0 (ji30)
                                      replace p33 := eq_true p33
                                      replace q33 := eq_true q33
                                      go_wp2
                                      repeat (go_quiet (fail); try go_wp2)
                                      go_ret2
                                      exact ⟨by first | rfl | (simp; done) | (simp only [← hji26, ← hji30] <;> (first | rfl | simp)) | (simp [*]; done), by repeat (first | exact Drawn0.refl _ | apply Drawn0.step)⟩
                                    · rw [if_neg c35] at H
                                      have c35b0 : decide ((Go.bits .or .i32 (Go.bits .or .i32 (wrap32 ((Go.bits .and .i32 (wrap32 (bt a0 a1)) 15) * 4096)) (wrap32 ((wrap32 (Go.bits .and .u8 (bt a0 (ji26)) 63)) * 64))) (wrap32 (Go.bits .and .u8 (bt a0 (ji30)) 63))) < 55296) = false := decide_eq_false c35
                                      clear c35
                                      by_cases c36 : (Go.bits .or .i32 (Go.bits .or .i32 (wrap32 ((Go.bits .and .i32 (wrap32 (bt a0 a1)) 15) * 4096)) (wrap32 ((wrap32 (Go.bits .and .u8 (bt a0 (ji26)) 63)) * 64))) (wrap32 (Go.bits .and .u8 (bt a0 (ji30)) 63))) > 57343
                                      · rw [if_pos c36] at H
                                        have c36b0 : decide (57343 < (Go.bits .or .i32 (Go.bits .or .i32 (wrap32 ((Go.bits .and .i32 (wrap32 (bt a0 a1)) 15) * 4096)) (wrap32 ((wrap32 (Go.bits .and .u8 (bt a0 (ji26)) 63)) * 64))) (wrap32 (Go.bits .and .u8 (bt a0 (ji30)) 63)))) = true := decide_eq_true c36
                                        clear c36
                                        simp only [Option.some.injEq, Prod.mk.injEq] at H
                                        obtain ⟨rfl, rfl⟩ := H
                                        have p29 : 0 ≤ ((ji26) : Int) := of_decide_eq_true (by first | (with_reducible assumption) | assumption)
                                        have q29 : (ji26) < (a0.size : Int) := of_decide_eq_true (by first | (with_reducible assumption) | assumption)
                                        have hx29 := bt_at a0 (ji26)
                                        replace p29 := eq_true p29
                                        replace q29 := eq_true q29
                                        have p33 : 0 ≤ ((ji30) : Int) := of_decide_eq_true (by first | (with_reducible assumption) | assumption)
                                        have q33 : (ji30) < (a0.size : Int) := of_decide_eq_true (by first | (with_reducible assumption) | assumption)
                                        have hx33 := bt_at a0 (ji30)
                                        replace p33 := eq_true p33
                                        replace q33 := eq_true q33
                                        go_wp2
                                        repeat (go_quiet (fail); try go_wp2)
                                        go_ret2
                                        exact ⟨by first | rfl | (simp; done) | (simp only [← hji26, ← hji30] <;> (first | rfl | simp)) | (simp [*]; done), by repeat (first | exact Drawn0.refl _ | apply Drawn0.step)⟩
                                      · rw [if_neg c36] at H
                                        have c36b0 : decide (57343 < (Go.bits .or .i32 (Go.bits .or .i32 (wrap32 ((Go.bits .and .i32 (wrap32 (bt a0 a1)) 15) * 4096)) (wrap32 ((wrap32 (Go.bits .and .u8 (bt a0 (ji26)) 63)) * 64))) (wrap32 (Go.bits .and .u8 (bt a0 (ji30)) 63)))) = false := decide_eq_false c36
                                        clear c36
                                        simp only [Option.some.injEq, Prod.mk.injEq] at H
                                        obtain ⟨rfl, rfl⟩ := H
                                        have p29 : 0 ≤ ((ji26) : Int) := of_decide_eq_true (by first | (with_reducible assumption) | assumption)
                                        have q29 : (ji26) < (a0.size : Int) := of_decide_eq_true (by first | (with_reducible assumption) | assumption)
                                        have hx29 := bt_at a0 (ji26)
                                        replace p29 := eq_true p29
                                        replace q29 := eq_true q29
                                        have p33 : 0 ≤ ((ji30) : Int) := of_decide_eq_true (by first | (with_reducible assumption) | assumption)
                                        have q33 : (ji30) < (a0.size : Int) := of_decide_eq_true (by first | (with_reducible assumption) | assumption)
                                        have hx33 := bt_at a0 (ji30)
                                        replace p33 := eq_true p33
                                        replace q33 := eq_true q33
                                        go_wp2
                                        repeat (go_quiet (fail); try go_wp2)
                                        go_ret2
                                        exact ⟨by first | rfl | (simp; done) | (simp only [← hji26, ← hji30] <;> (first | rfl | simp)) | (simp [*]; done), by repeat (first | exact Drawn0.refl _ | apply Drawn0.step)⟩
                                  · rw [if_neg c34] at H
                                    have c34b0 : decide (2048 ≤ (Go.bits .or .i32 (Go.bits .or .i32 (wrap32 ((Go.bits .and .i32 (wrap32 (bt a0 a1)) 15) * 4096)) (wrap32 ((wrap32 (Go.bits .and .u8 (bt a0 (ji26)) 63)) * 64))) (wrap32 (Go.bits .and .u8 (bt a0 (ji30)) 63)))) = false := decide_eq_false c34
                                    clear c34
                                    simp only [Option.some.injEq, Prod.mk.injEq] at H
                                    obtain ⟨rfl, rfl⟩ := H
                                    have p29 : 0 ≤ ((ji26) : Int) := of_decide_eq_true (by first | (with_reducible assumption) | assumption)
                                    have q29 : (ji26) < (a0.size : Int) := of_decide_eq_true (by first | (with_reducible assumption) | assumption)
                                    have hx29 := bt_at a0 (ji26)
                                    replace p29 := eq_true p29
                                    replace q29 := eq_true q29
                                    have p33 : 0 ≤ ((ji30) : Int) := of_decide_eq_true (by first | (with_reducible assumption) | assumption)
                                    have q33 : (ji30) < (a0.size : Int) := of_decide_eq_true (by first | (with_reducible assumption) | assumption)
                                    have hx33 := bt_at a0 (ji30)
                                    replace p33 := eq_true p33
                                    replace q33 := eq_true q33
                                    go_wp2
                                    repeat (go_quiet (fail); try go_wp2)
                                    go_ret2
                                    exact ⟨by first | rfl | (simp; done) | (simp only [← hji26, ← hji30] <;> (first | rfl | simp)) | (simp [*]; done), by repeat (first | exact Drawn0.refl _ | apply Drawn0.step)⟩
                                · rw [if_neg c32] at H
                                  exact absurd H (by simp)
                              · rw [if_neg c31] at H
                                exact absurd H (by simp)
                            · rw [if_neg c28] at H
                              exact absurd H (by simp)
                          · rw [if_neg c27] at H
                            exact absurd H (by simp)
                        · replace c25 := Bool.eq_false_iff.mpr c25
                          subst c25
                          have H1 : (if (wrap32 (bt a0 a1)) ≥ 240 then (if (wrap32 (bt a0 a1)) < 245 then ((erratumref04_cont.f a0 (wrap64 (a1 + 1))).bind fun t136 => (if t136 = true then ((erratumref04_cont.f a0 (wrap64 (a1 + 2))).bind fun t137 => (if t137 = true then ((erratumref04_cont.f a0 (wrap64 (a1 + 3))).bind fun t138 => (erratumref04_Rune.j3 kj18 a0 a1 (wrap32 (bt a0 a1)) t138)) else (erratumref04_Rune.j3 kj18 a0 a1 (wrap32 (bt a0 a1)) false))) else (erratumref04_Rune.j3 kj18 a0 a1 (wrap32 (bt a0 a1)) false))) else (erratumref04_Rune.j3 kj18 a0 a1 (wrap32 (bt a0 a1)) false)) else (erratumref04_Rune.j3 kj18 a0 a1 (wrap32 (bt a0 a1)) false)) = some (r1, r2) := by rw [if_neg (show ¬ (false = true) by decide)] at H; exact H
                          clear H
                          have H := H1
                          clear H1
                          have HC37 := Aside0.mk H
                          clear H
                          go_upto_region 12 with (fail)
                          repeat (go_quiet (fail); go_upto_region 12 with (fail))
                          go_cut [96] (fun v96 wc => ∃ (kq : Nat) (x96_36 : Bool), v96 = .bool x96_36 ∧ Aside0 (erratumref04_Rune.j3 kq a0 a1 (wrap32 (bt a0 a1)) x96_36 = some (r1, r2)) ∧ Aside0 (kq ≤ kj18) ∧ Drawn0 w wc)
                          case first =>
                            have H := HC37.out
                            clear HC37
                            by_cases c38 : (wrap32 (bt a0 a1)) ≥ 240
                            · rw [if_pos c38] at H
                              have c38b0 : decide (240 ≤ (wrap32 (bt a0 a1))) = true := decide_eq_true c38
                              clear c38
                              (first | rw [c38b0] | (simp only [i64_w, i32_w]; rw [c38b0]) | skip)
                              by_cases c39 : (wrap32 (bt a0 a1)) < 245
                              · rw [if_pos c39] at H
                                have c39b0 : decide ((wrap32 (bt a0 a1)) < 245) = true := decide_eq_true c39
                                clear c39
                                replace H := Option.bind_eq_some_iff.mp H
                                obtain ⟨t136, A400, H⟩ := H
                                replace H : (if t136 = true then ((erratumref04_cont.f a0 (wrap64 (a1 + 2))).bind fun t137 => (if t137 = true then ((erratumref04_cont.f a0 (wrap64 (a1 + 3))).bind fun t138 => (erratumref04_Rune.j3 kj18 a0 a1 (wrap32 (bt a0 a1)) t138)) else (erratumref04_Rune.j3 kj18 a0 a1 (wrap32 (bt a0 a1)) false))) else (erratumref04_Rune.j3 kj18 a0 a1 (wrap32 (bt a0 a1)) false)) = some (r1, r2) := H
                                have A40 := Aside0.mk A400
                                clear A400
                                by_cases c41 : t136 = true
                                · subst c41
                                  have H1 : ((erratumref04_cont.f a0 (wrap64 (a1 + 2))).bind fun t137 => (if t137 = true then ((erratumref04_cont.f a0 (wrap64 (a1 + 3))).bind fun t138 => (erratumref04_Rune.j3 kj18 a0 a1 (wrap32 (bt a0 a1)) t138)) else (erratumref04_Rune.j3 kj18 a0 a1 (wrap32 (bt a0 a1)) false))) = some (r1, r2) := by rw [if_pos rfl] at H; exact H
                                  clear H
                                  have H := H1
                                  clear H1
                                  replace H := Option.bind_eq_some_iff.mp H
                                  obtain ⟨t137, A420, H⟩ := H
                                  replace H : (if t137 = true then ((erratumref04_cont.f a0 (wrap64 (a1 + 3))).bind fun t138 => (erratumref04_Rune.j3 kj18 a0 a1 (wrap32 (bt a0 a1)) t138)) else (erratumref04_Rune.j3 kj18 a0 a1 (wrap32 (bt a0 a1)) false)) = some (r1, r2) := H
                                  have A42 := Aside0.mk A420
                                  clear A420
                                  by_cases c43 : t137 = true
                                  · subst c43
                                    have H1 : ((erratumref04_cont.f a0 (wrap64 (a1 + 3))).bind fun t138 => (erratumref04_Rune.j3 kj18 a0 a1 (wrap32 (bt a0 a1)) t138)) = some (r1, r2) := by rw [if_pos rfl] at H; exact H
                                    clear H
                                    have H := H1
                                    clear H1
                                    replace H := Option.bind_eq_some_iff.mp H
                                    obtain ⟨t138, A440, H⟩ := H
                                    replace H : (erratumref04_Rune.j3 kj18 a0 a1 (wrap32 (bt a0 a1)) t138) = some (r1, r2) := H
                                    have A44 := Aside0.mk A440
                                    clear A440
                                    have H' := Aside0.mk H
                                    clear H
                                    go_wp2_with (first | (go_at_call 49; (with_reducible refine (erratumref04_cont.calls a0 (wrap64 (a1 + 1)) true _ A40.out).mono ?_); rintro e w' ⟨rfl, ⟨nd, rfl⟩⟩; (try first | exact ⟨rfl, _, World.drewN_drewN _ _ _⟩ | exact ⟨rfl, _, Eq.trans (World.drewN_drewN _ _ _) (congrArg (World.drewN _) (Nat.add_assoc _ _ _))⟩)) | (go_at_call 49; (with_reducible refine (erratumref04_cont.calls a0 (wrap64 (a1 + 2)) true _ A42.out).mono ?_); rintro e w' ⟨rfl, ⟨nd, rfl⟩⟩; (try first | exact ⟨rfl, _, World.drewN_drewN _ _ _⟩ | exact ⟨rfl, _, Eq.trans (World.drewN_drewN _ _ _) (congrArg (World.drewN _) (Nat.add_assoc _ _ _))⟩)) | (go_at_call 49; (with_reducible refine (erratumref04_cont.calls a0 (wrap64 (a1 + 3)) t138 _ A44.out).mono ?_); rintro e w' ⟨rfl, ⟨nd, rfl⟩⟩; (try first | exact ⟨rfl, _, World.drewN_drewN _ _ _⟩ | exact ⟨rfl, _, Eq.trans (World.drewN_drewN _ _ _) (congrArg (World.drewN _) (Nat.add_assoc _ _ _))⟩)))
                                    repeat (go_quiet (first | (go_at_call 49; (with_reducible refine (erratumref04_cont.calls a0 (wrap64 (a1 + 1)) true _ A40.out).mono ?_); rintro e w' ⟨rfl, ⟨nd, rfl⟩⟩; (try first | exact ⟨rfl, _, World.drewN_drewN _ _ _⟩ | exact ⟨rfl, _, Eq.trans (World.drewN_drewN _ _ _) (congrArg (World.drewN _) (Nat.add_assoc _ _ _))⟩)) | (go_at_call 49; (with_reducible refine (erratumref04_cont.calls a0 (wrap64 (a1 + 2)) true _ A42.out).mono ?_); rintro e w' ⟨rfl, ⟨nd, rfl⟩⟩; (try first | exact ⟨rfl, _, World.drewN_drewN _ _ _⟩ | exact ⟨rfl, _, Eq.trans (World.drewN_drewN _ _ _) (congrArg (World.drewN _) (Nat.add_assoc _ _ _))⟩)) | (go_at_call 49; (with_reducible refine (erratumref04_cont.calls a0 (wrap64 (a1 + 3)) t138 _ A44.out).mono ?_); rintro e w' ⟨rfl, ⟨nd, rfl⟩⟩; (try first | exact ⟨rfl, _, World.drewN_drewN _ _ _⟩ | exact ⟨rfl, _, Eq.trans (World.drewN_drewN _ _ _) (congrArg (World.drewN _) (Nat.add_assoc _ _ _))⟩))); try go_wp2_with (first | (go_at_call 49; (with_reducible refine (erratumref04_cont.calls a0 (wrap64 (a1 + 1)) true _ A40.out).mono ?_); rintro e w' ⟨rfl, ⟨nd, rfl⟩⟩; (try first | exact ⟨rfl, _, World.drewN_drewN _ _ _⟩ | exact ⟨rfl, _, Eq.trans (World.drewN_drewN _ _ _) (congrArg (World.drewN _) (Nat.add_assoc _ _ _))⟩)) | (go_at_call 49; (with_reducible refine (erratumref04_cont.calls a0 (wrap64 (a1 + 2)) true _ A42.out).mono ?_); rintro e w' ⟨rfl, ⟨nd, rfl⟩⟩; (try first | exact ⟨rfl, _, World.drewN_drewN _ _ _⟩ | exact ⟨rfl, _, Eq.trans (World.drewN_drewN _ _ _) (congrArg (World.drewN _) (Nat.add_assoc _ _ _))⟩)) | (go_at_call 49; (with_reducible refine (erratumref04_cont.calls a0 (wrap64 (a1 + 3)) t138 _ A44.out).mono ?_); rintro e w' ⟨rfl, ⟨nd, rfl⟩⟩; (try first | exact ⟨rfl, _, World.drewN_drewN _ _ _⟩ | exact ⟨rfl, _, Eq.trans (World.drewN_drewN _ _ _) (congrArg (World.drewN _) (Nat.add_assoc _ _ _))⟩))))
                                    go_meet
                                    case rel => exact ⟨_, (t138), (by first | rfl | (simp; done) | (simp [*]; done)), H', ⟨by have := HJ2.out; have := HJ9.out; have := HJ18.out; first | omega | exact Nat.le_refl _⟩, by repeat (first | exact Drawn0.refl _ | apply Drawn0.step)⟩
                                  · replace c43 := Bool.eq_false_iff.mpr c43
                                    subst c43
                                    have H1 : (erratumref04_Rune.j3 kj18 a0 a1 (wrap32 (bt a0 a1)) false) = some (r1, r2) := by rw [if_neg (show ¬ (false = true) by decide)] at H; exact H
                                    clear H
                                    have H := H1
                                    clear H1
                                    have H' := Aside0.mk H
                                    clear H
                                    go_wp2_with (first | (go_at_call 49; (with_reducible refine (erratumref04_cont.calls a0 (wrap64 (a1 + 1)) true _ A40.out).mono ?_); rintro e w' ⟨rfl, ⟨nd, rfl⟩⟩; (try first | exact ⟨rfl, _, World.drewN_drewN _ _ _⟩ | exact ⟨rfl, _, Eq.trans (World.drewN_drewN _ _ _) (congrArg (World.drewN _) (Nat.add_assoc _ _ _))⟩)) | (go_at_call 49; (with_reducible refine (erratumref04_cont.calls a0 (wrap64 (a1 + 2)) false _ A42.out).mono ?_); rintro e w' ⟨rfl, ⟨nd, rfl⟩⟩; (try first | exact ⟨rfl, _, World.drewN_drewN _ _ _⟩ | exact ⟨rfl, _, Eq.trans (World.drewN_drewN _ _ _) (congrArg (World.drewN _) (Nat.add_assoc _ _ _))⟩)))
                                    repeat (go_quiet (first | (go_at_call 49; (with_reducible refine (erratumref04_cont.calls a0 (wrap64 (a1 + 1)) true _ A40.out).mono ?_); rintro e w' ⟨rfl, ⟨nd, rfl⟩⟩; (try first | exact ⟨rfl, _, World.drewN_drewN _ _ _⟩ | exact ⟨rfl, _, Eq.trans (World.drewN_drewN _ _ _) (congrArg (World.drewN _) (Nat.add_assoc _ _ _))⟩)) | (go_at_call 49; (with_reducible refine (erratumref04_cont.calls a0 (wrap64 (a1 + 2)) false _ A42.out).mono ?_); rintro e w' ⟨rfl, ⟨nd, rfl⟩⟩; (try first | exact ⟨rfl, _, World.drewN_drewN _ _ _⟩ | exact ⟨rfl, _, Eq.trans (World.drewN_drewN _ _ _) (congrArg (World.drewN _) (Nat.add_assoc _ _ _))⟩))); try go_wp2_with (first | (go_at_call 49; (with_reducible refine (erratumref04_cont.calls a0 (wrap64 (a1 + 1)) true _ A40.out).mono ?_); rintro e w' ⟨rfl, ⟨nd, rfl⟩⟩; (try first | exact ⟨rfl, _, World.drewN_drewN _ _ _⟩ | exact ⟨rfl, _, Eq.trans (World.drewN_drewN _ _ _) (congrArg (World.drewN _) (Nat.add_assoc _ _ _))⟩)) | (go_at_call 49; (with_reducible refine (erratumref04_cont.calls a0 (wrap64 (a1 + 2)) false _ A42.out).mono ?_); rintro e w' ⟨rfl, ⟨nd, rfl⟩⟩; (try first | exact ⟨rfl, _, World.drewN_drewN _ _ _⟩ | exact ⟨rfl, _, Eq.trans (World.drewN_drewN _ _ _) (congrArg (World.drewN _) (Nat.add_assoc _ _ _))⟩))))
                                    go_meet
                                    case rel => exact ⟨_, (false), (by first | rfl | (simp; done) | (simp [*]; done)), H', ⟨by have := HJ2.out; have := HJ9.out; have := HJ18.out; first | omega | exact Nat.le_refl _⟩, by repeat (first | exact Drawn0.refl _ | apply Drawn0.step)⟩
                                · replace c41 := Bool.eq_false_iff.mpr c41
                                  subst c41
                                  have H1 : (erratumref04_Rune.j3 kj18 a0 a1 (wrap32 (bt a0 a1)) false) = some (r1, r2) := by rw [if_neg (show ¬ (false = true) by decide)] at H; exact H
                                  clear H
                                  have H := H1
                                  clear H1
                                  have H' := Aside0.mk H
                                  clear H
                                  go_wp2_with (first | (go_at_call 49; (with_reducible refine (erratumref04_cont.calls a0 (wrap64 (a1 + 1)) false _ A40.out).mono ?_); rintro e w' ⟨rfl, ⟨nd, rfl⟩⟩; (try first | exact ⟨rfl, _, World.drewN_drewN _ _ _⟩ | exact ⟨rfl, _, Eq.trans (World.drewN_drewN _ _ _) (congrArg (World.drewN _) (Nat.add_assoc _ _ _))⟩)))
                                  repeat (go_quiet (first | (go_at_call 49; (with_reducible refine (erratumref04_cont.calls a0 (wrap64 (a1 + 1)) false _ A40.out).mono ?_); rintro e w' ⟨rfl, ⟨nd, rfl⟩⟩; (try first | exact ⟨rfl, _, World.drewN_drewN _ _ _⟩ | exact ⟨rfl, _, Eq.trans (World.drewN_drewN _ _ _) (congrArg (World.drewN _) (Nat.add_assoc _ _ _))⟩))); try go_wp2_with (first | (go_at_call 49; (with_reducible refine (erratumref04_cont.calls a0 (wrap64 (a1 + 1)) false _ A40.out).mono ?_); rintro e w' ⟨rfl, ⟨nd, rfl⟩⟩; (try first | exact ⟨rfl, _, World.drewN_drewN _ _ _⟩ | exact ⟨rfl, _, Eq.trans (World.drewN_drewN _ _ _) (congrArg (World.drewN _) (Nat.add_assoc _ _ _))⟩))))
                                  go_meet
                                  case rel => exact ⟨_, (false), (by first | rfl | (simp; done) | (simp [*]; done)), H', ⟨by have := HJ2.out; have := HJ9.out; have := HJ18.out; first | omega | exact Nat.le_refl _⟩, by repeat (first | exact Drawn0.refl _ | apply Drawn0.step)⟩
                              · rw [if_neg c39] at H
                                have c39b0 : decide ((wrap32 (bt a0 a1)) < 245) = false := decide_eq_false c39
                                clear c39
                                have H' := Aside0.mk H
                                clear H
                                go_wp2
                                repeat (go_quiet (fail); try go_wp2)
                                go_meet
                                case rel => exact ⟨_, (false), (by first | rfl | (simp; done) | (simp [*]; done)), H', ⟨by have := HJ2.out; have := HJ9.out; have := HJ18.out; first | omega | exact Nat.le_refl _⟩, by repeat (first | exact Drawn0.refl _ | apply Drawn0.step)⟩
                            · rw [if_neg c38] at H
                              have c38b0 : decide (240 ≤ (wrap32 (bt a0 a1))) = false := decide_eq_false c38
                              clear c38
                              (first | rw [c38b0] | (simp only [i64_w, i32_w]; rw [c38b0]) | skip)
                              have H' := Aside0.mk H
                              clear H
                              go_wp2
                              repeat (go_quiet (fail); try go_wp2)
                              go_meet
                              case rel => exact ⟨_, (false), (by first | rfl | (simp; done) | (simp [*]; done)), H', ⟨by have := HJ2.out; have := HJ9.out; have := HJ18.out; first | omega | exact Nat.le_refl _⟩, by repeat (first | exact Drawn0.refl _ | apply Drawn0.step)⟩
                          case rest =>
                            clear HC37
                            try clear c1
                            try clear p1
                            try clear q1
                            try clear hx1
                            try clear c2
                            try clear p2
                            try clear q2
                            try clear hx2
                            try clear c3
                            try clear p3
                            try clear q3
                            try clear hx3
                            try clear c4
                            try clear c4b0
                            try clear c5
                            try clear c6
                            try clear c6b0
                            try clear p6
                            try clear c7
                            try clear c7b0
                            try clear p8
                            try clear q8
                            try clear hx8
                            try clear c9
                            try clear c9b0
                            try clear c11
                            try clear c11b0
                            try clear c12
                            try clear c12b0
                            try clear c14
                            try clear c16
                            try clear c16b0
                            try clear c17
                            try clear c17b0
                            try clear c18
                            try clear p18
                            try clear q18
                            try clear hx18
                            try clear c20
                            try clear c20b0
                            try clear c21
                            try clear c21b0
                            try clear c23
                            try clear c25
                            try clear c27
                            try clear c27b0
                            try clear c28
                            try clear c28b0
                            try clear p29
                            try clear q29
                            try clear hx29
                            try clear c31
                            try clear c31b0
                            try clear c32
                            try clear c32b0
                            try clear p32
                            try clear p33
                            try clear q33
                            try clear hx33
                            try clear c34
                            try clear c34b0
                            try clear c35
                            try clear c35b0
                            try clear c36
                            try clear c36b0
                            try clear c38
                            try clear c38b0
                            try clear c39
                            try clear c39b0
                            try clear c41
                            try clear c43
                            try clear p1
                            try clear p18
                            try clear p2
                            try clear p29
                            try clear p3
                            try clear p33
                            try clear p6
                            try clear p8
                            try clear q1
                            try clear q18
                            try clear q29
                            try clear q33
                            try clear q8
                            obtain ⟨kq, x96_36, rfl, HA, HJ36, ⟨mc36, rfl⟩⟩ := hcut
                            cases kq with
                            | zero => exact absurd HA.out (by simp [erratumref04_Rune.j3])
                            | succ kj36 =>
                              have H := HA.out
                              clear HA
                              simp only [erratumref04_Rune.j3] at H
                              by_cases c45 : x96_36 = true
                              · subst c45
                                have H1 : (if 0 ≤ (wrap64 (a1 + 1)) then (if (wrap64 (a1 + 1)) < (a0.size : Int) then (if 0 ≤ (wrap64 (a1 + 2)) then (if (wrap64 (a1 + 2)) < (a0.size : Int) then (if 0 ≤ (wrap64 (a1 + 3)) then (if (wrap64 (a1 + 3)) < (a0.size : Int) then (if (Go.bits .or .i32 (Go.bits .or .i32 (Go.bits .or .i32 (wrap32 ((Go.bits .and .i32 (wrap32 (bt a0 a1)) 7) * 262144)) (wrap32 ((wrap32 (Go.bits .and .u8 (bt a0 (wrap64 (a1 + 1))) 63)) * 4096))) (wrap32 ((wrap32 (Go.bits .and .u8 (bt a0 (wrap64 (a1 + 2))) 63)) * 64))) (wrap32 (Go.bits .and .u8 (bt a0 (wrap64 (a1 + 3))) 63))) ≥ 65536 then (if (Go.bits .or .i32 (Go.bits .or .i32 (Go.bits .or .i32 (wrap32 ((Go.bits .and .i32 (wrap32 (bt a0 a1)) 7) * 262144)) (wrap32 ((wrap32 (Go.bits .and .u8 (bt a0 (wrap64 (a1 + 1))) 63)) * 4096))) (wrap32 ((wrap32 (Go.bits .and .u8 (bt a0 (wrap64 (a1 + 2))) 63)) * 64))) (wrap32 (Go.bits .and .u8 (bt a0 (wrap64 (a1 + 3))) 63))) ≤ 1114111 then (some (Go.bits .or .i32 (Go.bits .or .i32 (Go.bits .or .i32 (wrap32 ((Go.bits .and .i32 (wrap32 (bt a0 a1)) 7) * 262144)) (wrap32 ((wrap32 (Go.bits .and .u8 (bt a0 (wrap64 (a1 + 1))) 63)) * 4096))) (wrap32 ((wrap32 (Go.bits .and .u8 (bt a0 (wrap64 (a1 + 2))) 63)) * 64))) (wrap32 (Go.bits .and .u8 (bt a0 (wrap64 (a1 + 3))) 63)), 4)) else (some ((-1), 1))) else (some ((-1), 1))) else (none)) else (none)) else (none)) else (none)) else (none)) else (none)) = some (r1, r2) := by rw [if_pos rfl] at H; exact H
                                clear H
                                have H := H1
                                clear H1
                                obtain ⟨ji46, hji46⟩ : ∃ j_ : Int, (wrap64 (a1 + 1)) = j_ := ⟨_, rfl⟩
                                replace H : (if 0 ≤ (ji46) then (if (ji46) < (a0.size : Int) then (if 0 ≤ (wrap64 (a1 + 2)) then (if (wrap64 (a1 + 2)) < (a0.size : Int) then (if 0 ≤ (wrap64 (a1 + 3)) then (if (wrap64 (a1 + 3)) < (a0.size : Int) then (if (Go.bits .or .i32 (Go.bits .or .i32 (Go.bits .or .i32 (wrap32 ((Go.bits .and .i32 (wrap32 (bt a0 a1)) 7) * 262144)) (wrap32 ((wrap32 (Go.bits .and .u8 (bt a0 (ji46)) 63)) * 4096))) (wrap32 ((wrap32 (Go.bits .and .u8 (bt a0 (wrap64 (a1 + 2))) 63)) * 64))) (wrap32 (Go.bits .and .u8 (bt a0 (wrap64 (a1 + 3))) 63))) ≥ 65536 then (if (Go.bits .or .i32 (Go.bits .or .i32 (Go.bits .or .i32 (wrap32 ((Go.bits .and .i32 (wrap32 (bt a0 a1)) 7) * 262144)) (wrap32 ((wrap32 (Go.bits .and .u8 (bt a0 (ji46)) 63)) * 4096))) (wrap32 ((wrap32 (Go.bits .and .u8 (bt a0 (wrap64 (a1 + 2))) 63)) * 64))) (wrap32 (Go.bits .and .u8 (bt a0 (wrap64 (a1 + 3))) 63))) ≤ 1114111 then (some (Go.bits .or .i32 (Go.bits .or .i32 (Go.bits .or .i32 (wrap32 ((Go.bits .and .i32 (wrap32 (bt a0 a1)) 7) * 262144)) (wrap32 ((wrap32 (Go.bits .and .u8 (bt a0 (ji46)) 63)) * 4096))) (wrap32 ((wrap32 (Go.bits .and .u8 (bt a0 (wrap64 (a1 + 2))) 63)) * 64))) (wrap32 (Go.bits .and .u8 (bt a0 (wrap64 (a1 + 3))) 63)), 4)) else (some ((-1), 1))) else (some ((-1), 1))) else (none)) else (none)) else (none)) else (none)) else (none)) else (none)) = some (r1, r2) := by first | (rw [hji46] at H; exact H) | (simp only [hji46] at H ⊢; exact H)
                                have hji46w : (IntKind.i64.wrap (a1 + 1)) = ji46 := (i64_w _).trans hji46
                                by_cases c47 : 0 ≤ (ji46)
                                · rw [if_pos c47] at H
                                  have c47b0 : decide (0 ≤ (ji46)) = true := decide_eq_true c47
                                  clear c47
                                  by_cases c48 : (ji46) < (a0.size : Int)
                                  · rw [if_pos c48] at H
                                    have c48b0 : decide ((ji46) < (a0.size : Int)) = true := decide_eq_true c48
                                    clear c48
                                    obtain ⟨ji50, hji50⟩ : ∃ j_ : Int, (wrap64 (a1 + 2)) = j_ := ⟨_, rfl⟩
                                    replace H : (if 0 ≤ (ji50) then (if (ji50) < (a0.size : Int) then (if 0 ≤ (wrap64 (a1 + 3)) then (if (wrap64 (a1 + 3)) < (a0.size : Int) then (if (Go.bits .or .i32 (Go.bits .or .i32 (Go.bits .or .i32 (wrap32 ((Go.bits .and .i32 (wrap32 (bt a0 a1)) 7) * 262144)) (wrap32 ((wrap32 (Go.bits .and .u8 (bt a0 (ji46)) 63)) * 4096))) (wrap32 ((wrap32 (Go.bits .and .u8 (bt a0 (ji50)) 63)) * 64))) (wrap32 (Go.bits .and .u8 (bt a0 (wrap64 (a1 + 3))) 63))) ≥ 65536 then (if (Go.bits .or .i32 (Go.bits .or .i32 (Go.bits .or .i32 (wrap32 ((Go.bits .and .i32 (wrap32 (bt a0 a1)) 7) * 262144)) (wrap32 ((wrap32 (Go.bits .and .u8 (bt a0 (ji46)) 63)) * 4096))) (wrap32 ((wrap32 (Go.bits .and .u8 (bt a0 (ji50)) 63)) * 64))) (wrap32 (Go.bits .and .u8 (bt a0 (wrap64 (a1 + 3))) 63))) ≤ 1114111 then (some (Go.bits .or .i32 (Go.bits .or .i32 (Go.bits .or .i32 (wrap32 ((Go.bits .and .i32 (wrap32 (bt a0 a1)) 7) * 262144)) (wrap32 ((wrap32 (Go.bits .and .u8 (bt a0 (ji46)) 63)) * 4096))) (wrap32 ((wrap32 (Go.bits .and .u8 (bt a0 (ji50)) 63)) * 64))) (wrap32 (Go.bits .and .u8 (bt a0 (wrap64 (a1 + 3))) 63)), 4)) else (some ((-1), 1))) else (some ((-1), 1))) else (none)) else (none)) else (none)) else (none)) = some (r1, r2) := by first | (rw [hji50] at H; exact H) | (simp only [hji50] at H ⊢; exact H)
                                    have hji50w : (IntKind.i64.wrap (a1 + 2)) = ji50 := (i64_w _).trans hji50
                                    by_cases c51 : 0 ≤ (ji50)
                                    · rw [if_pos c51] at H
                                      have c51b0 : decide (0 ≤ (ji50)) = true := decide_eq_true c51
                                      clear c51
                                      by_cases c52 : (ji50) < (a0.size : Int)
                                      · rw [if_pos c52] at H
                                        have c52b0 : decide ((ji50) < (a0.size : Int)) = true := decide_eq_true c52
                                        clear c52
                                        obtain ⟨ji54, hji54⟩ : ∃ j_ : Int, (wrap64 (a1 + 3)) = j_ := ⟨_, rfl⟩
                                        replace H : (if 0 ≤ (ji54) then (if (ji54) < (a0.size : Int) then (if (Go.bits .or .i32 (Go.bits .or .i32 (Go.bits .or .i32 (wrap32 ((Go.bits .and .i32 (wrap32 (bt a0 a1)) 7) * 262144)) (wrap32 ((wrap32 (Go.bits .and .u8 (bt a0 (ji46)) 63)) * 4096))) (wrap32 ((wrap32 (Go.bits .and .u8 (bt a0 (ji50)) 63)) * 64))) (wrap32 (Go.bits .and .u8 (bt a0 (ji54)) 63))) ≥ 65536 then (if (Go.bits .or .i32 (Go.bits .or .i32 (Go.bits .or .i32 (wrap32 ((Go.bits .and .i32 (wrap32 (bt a0 a1)) 7) * 262144)) (wrap32 ((wrap32 (Go.bits .and .u8 (bt a0 (ji46)) 63)) * 4096))) (wrap32 ((wrap32 (Go.bits .and .u8 (bt a0 (ji50)) 63)) * 64))) (wrap32 (Go.bits .and .u8 (bt a0 (ji54)) 63))) ≤ 1114111 then (some (Go.bits .or .i32 (Go.bits .or .i32 (Go.bits .or .i32 (wrap32 ((Go.bits .and .i32 (wrap32 (bt a0 a1)) 7) * 262144)) (wrap32 ((wrap32 (Go.bits .and .u8 (bt a0 (ji46)) 63)) * 4096))) (wrap32 ((wrap32 (Go.bits .and .u8 (bt a0 (ji50)) 63)) * 64))) (wrap32 (Go.bits .and .u8 (bt a0 (ji54)) 63)), 4)) else (some ((-1), 1))) else (some ((-1), 1))) else (none)) else (none)) = some (r1, r2) := by first | (rw [hji54] at H; exact H) | (simp only [hji54] at H ⊢; exact H)
                                        have hji54w : (IntKind.i64.wrap (a1 + 3)) = ji54 := (i64_w _).trans hji54
                                        by_cases c55 : 0 ≤ (ji54)
                                        · rw [if_pos c55] at H
                                          have c55b0 : decide (0 ≤ (ji54)) = true := decide_eq_true c55
                                          clear c55
                                          by_cases c56 : (ji54) < (a0.size : Int)
                                          · rw [if_pos c56] at H
                                            have c56b0 : decide ((ji54) < (a0.size : Int)) = true := decide_eq_true c56
                                            clear c56
                                            by_cases c58 : (Go.bits .or .i32 (Go.bits .or .i32 (Go.bits .or .i32 (wrap32 ((Go.bits .and .i32 (wrap32 (bt a0 a1)) 7) * 262144)) (wrap32 ((wrap32 (Go.bits .and .u8 (bt a0 (ji46)) 63)) * 4096))) (wrap32 ((wrap32 (Go.bits .and .u8 (bt a0 (ji50)) 63)) * 64))) (wrap32 (Go.bits .and .u8 (bt a0 (ji54)) 63))) ≥ 65536
                                            · rw [if_pos c58] at H
                                              have c58b0 : decide (65536 ≤ (Go.bits .or .i32 (Go.bits .or .i32 (Go.bits .or .i32 (wrap32 ((Go.bits .and .i32 (wrap32 (bt a0 a1)) 7) * 262144)) (wrap32 ((wrap32 (Go.bits .and .u8 (bt a0 (ji46)) 63)) * 4096))) (wrap32 ((wrap32 (Go.bits .and .u8 (bt a0 (ji50)) 63)) * 64))) (wrap32 (Go.bits .and .u8 (bt a0 (ji54)) 63)))) = true := decide_eq_true c58
                                              clear c58
                                              by_cases c59 : (Go.bits .or .i32 (Go.bits .or .i32 (Go.bits .or .i32 (wrap32 ((Go.bits .and .i32 (wrap32 (bt a0 a1)) 7) * 262144)) (wrap32 ((wrap32 (Go.bits .and .u8 (bt a0 (ji46)) 63)) * 4096))) (wrap32 ((wrap32 (Go.bits .and .u8 (bt a0 (ji50)) 63)) * 64))) (wrap32 (Go.bits .and .u8 (bt a0 (ji54)) 63))) ≤ 1114111
                                              · rw [if_pos c59] at H
                                                have c59b0 : decide ((Go.bits .or .i32 (Go.bits .or .i32 (Go.bits .or .i32 (wrap32 ((Go.bits .and .i32 (wrap32 (bt a0 a1)) 7) * 262144)) (wrap32 ((wrap32 (Go.bits .and .u8 (bt a0 (ji46)) 63)) * 4096))) (wrap32 ((wrap32 (Go.bits .and .u8 (bt a0 (ji50)) 63)) * 64))) (wrap32 (Go.bits .and .u8 (bt a0 (ji54)) 63))) ≤ 1114111) = true := decide_eq_true c59
                                                clear c59
                                                simp only [Option.some.injEq, Prod.mk.injEq] at H
                                                obtain ⟨rfl, rfl⟩ := H
                                                have p49 : 0 ≤ ((ji46) : Int) := of_decide_eq_true (by first | (with_reducible assumption) | assumption)
                                                have q49 : (ji46) < (a0.size : Int) := of_decide_eq_true (by first | (with_reducible assumption) | assumption)
                                                have hx49 := bt_at a0 (ji46)
                                                replace p49 := eq_true p49
                                                replace q49 := eq_true q49
                                                have p53 : 0 ≤ ((ji50) : Int) := of_decide_eq_true (by first | (with_reducible assumption) | assumption)
                                                have q53 : (ji50) < (a0.size : Int) := of_decide_eq_true (by first | (with_reducible assumption) | assumption)
                                                have hx53 := bt_at a0 (ji50)
                                                replace p53 := eq_true p53
                                                replace q53 := eq_true q53
                                                have p57 : 0 ≤ ((ji54) : Int) := of_decide_eq_true (by first | (with_reducible assumption) | assumption)
                                                have q57 : (ji54) < (a0.size : Int) := of_decide_eq_true (by first | (with_reducible assumption) | assumption)
                                                have hx57 := bt_at a0 (ji54)
                                                replace p57 := eq_true p57
                                                replace q57 := eq_true q57
                                                go_wp2
                                                repeat (go_quiet (fail); try go_wp2)
                                                go_ret2
                                                exact ⟨by first | rfl | (simp; done) | (simp only [← hji46, ← hji50, ← hji54] <;> (first | rfl | simp)) | (simp [*]; done), by repeat (first | exact Drawn0.refl _ | apply Drawn0.step)⟩
                                              · rw [if_neg c59] at H
                                                have c59b0 : decide ((Go.bits .or .i32 (Go.bits .or .i32 (Go.bits .or .i32 (wrap32 ((Go.bits .and .i32 (wrap32 (bt a0 a1)) 7) * 262144)) (wrap32 ((wrap32 (Go.bits .and .u8 (bt a0 (ji46)) 63)) * 4096))) (wrap32 ((wrap32 (Go.bits .and .u8 (bt a0 (ji50)) 63)) * 64))) (wrap32 (Go.bits .and .u8 (bt a0 (ji54)) 63))) ≤ 1114111) = false := decide_eq_false c59
                                                clear c59
                                                simp only [Option.some.injEq, Prod.mk.injEq] at H
                                                obtain ⟨rfl, rfl⟩ := H
                                                have p49 : 0 ≤ ((ji46) : Int) := of_decide_eq_true (by first | (with_reducible assumption) | assumption)
                                                have q49 : (ji46) < (a0.size : Int) := of_decide_eq_true (by first | (with_reducible assumption) | assumption)
                                                have hx49 := bt_at a0 (ji46)
                                                replace p49 := eq_true p49
                                                replace q49 := eq_true q49
                                                have p53 : 0 ≤ ((ji50) : Int) := of_decide_eq_true (by first | (with_reducible assumption) | assumption)
                                                have q53 : (ji50) < (a0.size : Int) := of_decide_eq_true (by first | (with_reducible assumption) | assumption)
                                                have hx53 := bt_at a0 (ji50)
                                                replace p53 := eq_true p53
                                                replace q53 := eq_true q53
                                                have p57 : 0 ≤ ((ji54) : Int) := of_decide_eq_true (by first | (with_reducible assumption) | assumption)
                                                have q57 : (ji54) < (a0.size : Int) := of_decide_eq_true (by first | (with_reducible assumption) | assumption)
                                                have hx57 := bt_at a0 (ji54)
                                                replace p57 := eq_true p57
                                                replace q57 := eq_true q57
                                                go_wp2
                                                repeat (go_quiet (fail); try go_wp2)
                                                go_ret2
                                                exact ⟨by first | rfl | (simp; done) | (simp only [← hji46, ← hji50, ← hji54] <;> (first | rfl | simp)) | (simp [*]; done), by repeat (first | exact Drawn0.refl _ | apply Drawn0.step)⟩
                                            · rw [if_neg c58] at H
                                              have c58b0 : decide (65536 ≤ (Go.bits .or .i32 (Go.bits .or .i32 (Go.bits .or .i32 (wrap32 ((Go.bits .and .i32 (wrap32 (bt a0 a1)) 7) * 262144)) (wrap32 ((wrap32 (Go.bits .and .u8 (bt a0 (ji46)) 63)) * 4096))) (wrap32 ((wrap32 (Go.bits .and .u8 (bt a0 (ji50)) 63)) * 64))) (wrap32 (Go.bits .and .u8 (bt a0 (ji54)) 63)))) = false := decide_eq_false c58
                                              clear c58
                                              simp only [Option.some.injEq, Prod.mk.injEq] at H
                                              obtain ⟨rfl, rfl⟩ := H
                                              have p49 : 0 ≤ ((ji46) : Int) := of_decide_eq_true (by first | (with_reducible assumption) | assumption)
                                              have q49 : (ji46) < (a0.size : Int) := of_decide_eq_true (by first | (with_reducible assumption) | assumption)
                                              have hx49 := bt_at a0 (ji46)
                                              replace p49 := eq_true p49
                                              replace q49 := eq_true q49
                                              have p53 : 0 ≤ ((ji50) : Int) := of_decide_eq_true (by first | (with_reducible assumption) | assumption)
                                              have q53 : (ji50) < (a0.size : Int) := of_decide_eq_true (by first | (with_reducible assumption) | assumption)
                                              have hx53 := bt_at a0 (ji50)
                                              replace p53 := eq_true p53
                                              replace q53 := eq_true q53
                                              have p57 : 0 ≤ ((ji54) : Int) := of_decide_eq_true (by first | (with_reducible assumption) | assumption)
                                              have q57 : (ji54) < (a0.size : Int) := of_decide_eq_true (by first | (with_reducible assumption) | assumption)
                                              have hx57 := bt_at a0 (ji54)
                                              replace p57 := eq_true p57
                                              replace q57 := eq_true q57
                                              go_wp2
                                              repeat (go_quiet (fail); try go_wp2)
                                              go_ret2
                                              exact ⟨by first | rfl | (simp; done) | (simp only [← hji46, ← hji50, ← hji54] <;> (first | rfl | simp)) | (simp [*]; done), by repeat (first | exact Drawn0.refl _ | apply Drawn0.step)⟩
                                          · rw [if_neg c56] at H
                                            exact absurd H (by simp)
                                        · rw [if_neg c55] at H
                                          exact absurd H (by simp)
                                      · rw [if_neg c52] at H
                                        exact absurd H (by simp)
                                    · rw [if_neg c51] at H
                                      exact absurd H (by simp)
                                  · rw [if_neg c48] at H
                                    exact absurd H (by simp)
                                · rw [if_neg c47] at H
                                  exact absurd H (by simp)
                              · replace c45 := Bool.eq_false_iff.mpr c45
                                subst c45
                                have H1 : (some ((-1), 1)) = some (r1, r2) := by rw [if_neg (show ¬ (false = true) by decide)] at H; exact H
                                clear H
                                have H := H1
                                clear H1
                                simp only [Option.some.injEq, Prod.mk.injEq] at H
                                obtain ⟨rfl, rfl⟩ := H
                                go_wp2
                                repeat (go_quiet (fail); try go_wp2)
                                go_ret2
                                exact ⟨by first | rfl | (simp; done) | (simp [*]; done), by repeat (first | exact Drawn0.refl _ | apply Drawn0.step)⟩
          · rw [if_neg c7] at H
            exact absurd H (by simp)
        · rw [if_neg c6] at H
          exact absurd H (by simp)
end Go.Proofs.YtpamgedmgjfjjaaDoor.M
