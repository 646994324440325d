-- Written by wip/xprint.py (the kit's print with our externs). Lean checks it.
import Derived.Test.YtpamgedmgjfjjaaM0
import Derived.Test.YtpamgedmgjfjjaaM1
import Derived.Test.YtpamgedmgjfjjaaM2
import Derived.Test.YtpamgedmgjfjjaaM4
import Derived.Test.YtpamgedmgjfjjaaXPut
namespace Go.Proofs.Ytpamgedmgjfjjaa.M
open Go.RowKit Go.Proofs.YtpamgedmgjfjjaaW.PrintWords Go.Proofs.YtpamgedmgjfjjaaW.PrintLast Go.Proofs.YtpamgedmgjfjjaaW.PrintMore
attribute [local go_sem] max2_int min2_int max_two min_two max_three min_three max_four min_four   -- for this text's walks alone
set_option linter.unusedVariables false
set_option linter.unusedSimpArgs false

/-! ### erratumlaw09_CheadBack: function 5 -/
mutual
def erratumlaw09_CheadBack.j0 : Nat → Int → Int → Int → Option (Bool)
  | 0, _, _, _ => none
  | k + 1, x0, x3, x10 => if x10 < 24 then (erratumlaw09_CheadBack.j1 k x0 x3 x10 1) else (if x10 < 256 then (erratumlaw09_CheadBack.j1 k x0 x3 x10 2) else (if x10 < 65536 then (erratumlaw09_CheadBack.j1 k x0 x3 x10 3) else (if x10 < 4294967296 then (erratumlaw09_CheadBack.j1 k x0 x3 x10 5) else (erratumlaw09_CheadBack.j1 k x0 x3 x10 9))))
def erratumlaw09_CheadBack.j1 : Nat → Int → Int → Int → Int → Option (Bool)
  | 0, _, _, _, _ => none
  | k + 1, x0, x3, x10, x11 => (erratumlaw00_Place.f x0 8).bind fun t181 => ((chead_Put.f (([1] : List Int)) t181 x10).bind fun t185 => (if (t185.length : Int) = (wrap64 (x11 + 1)) then ((chead_Get.f k t185 1).bind fun bt188 => (if 0 ≤ (wrap64 ((t185.length : Int) - 1)) then (if (wrap64 ((t185.length : Int) - 1)) ≤ (t185.length : Int) then ((chead_Get.f k (t185.take ((wrap64 ((t185.length : Int) - 1)) : Int).toNat) 1).bind fun bt197 => ((erratumlaw00_Place.f x3 4).bind fun t202 => (if 0 ≤ (IntKind.u64.wrap (t202)) then (erratumlaw09_CheadBack.l0 k x10 x11 t181 bt188.1 bt188.2.2.1 bt188.2.2.2.1 bt188.2.2.2.2 bt197.2.2.2.2 t202 (([(wrap64 ((wrap64 ((wrap64 (t181 * 32)) + 24)) + t202)) % 256] : List Int)) (wrap64 ((shl .i64 1 (IntKind.u64.wrap (t202))) - 1))) else (none)))) else (none)) else (none))) else (some false)))
def erratumlaw09_CheadBack.l0 : Nat → Int → Int → Int → Int → Int → Int → Int → Int → Int → List Int → Int → Option (Bool)
  | 0, _, _, _, _, _, _, _, _, _, _, _ => none
  | k + 1, x10, x11, x12, x14, x16, x17, x18, x23, x24, x25, x26 => if x26 ≥ 0 then (if 0 ≤ (IntKind.u64.wrap (wrap64 (8 * x26))) then (if x25.length < 140737488355328 then (erratumlaw09_CheadBack.l0 k x10 x11 x12 x14 x16 x17 x18 x23 x24 (x25 ++ [(shr .u64 x10 (IntKind.u64.wrap (wrap64 (8 * x26)))) % 256]) (wrap64 (x26 - 1))) else (none)) else (none)) else ((chead_Get.f k x25 0).bind fun bt209 => (if x24 = 3 then (if x14 = x12 then (if x16 = x10 then (if x17 = (wrap64 (x11 + 1)) then (if x18 = 0 then (if x23 = 2 then (if bt209.2.2.2.2 = 0 then (if bt209.2.2.1 = x10 then ((erratumlaw09_awake.f).bind fun t214 => (some t214)) else (some false)) else (some false)) else (some false)) else (some false)) else (some false)) else (some false)) else (some false)) else (if 0 ≤ (IntKind.u64.wrap (x24)) then (if x14 = x12 then (if x16 = x10 then (if x17 = (wrap64 (x11 + 1)) then (if x18 = 0 then (if x23 = 2 then (if bt209.2.2.2.2 = 0 then (if (x10 < (shl .u64 1 (shl .u64 8 (IntKind.u64.wrap (x24))))) then (if bt209.2.2.1 = x10 then ((erratumlaw09_awake.f).bind fun t215 => (some t215)) else (some false)) else ((erratumlaw09_awake.f).bind fun t216 => (some t216))) else (some false)) else (some false)) else (some false)) else (some false)) else (some false)) else (some false)) else (none))))
end
def erratumlaw09_CheadBack.f (k : Nat) (a0 : Int) (a1 : Int) (a2 : Int) (a3 : Int) : Option (Bool) := (erratumlaw00_Place.f a2 65).bind fun t180 => (if t180 < 64 then (if 0 ≤ (IntKind.u64.wrap (t180)) then (erratumlaw09_CheadBack.j0 k a0 a3 (Go.bits .and .u64 a1 (IntKind.u64.wrap ((shl .u64 1 (IntKind.u64.wrap (t180))) - 1)))) else (none)) else (erratumlaw09_CheadBack.j0 k a0 a3 a1))
theorem erratumlaw09_CheadBack.mono_l : ∀ k, (∀ y0 y1 y2, LeO (erratumlaw09_CheadBack.j0 k y0 y1 y2) (erratumlaw09_CheadBack.j0 (k + 1) y0 y1 y2)) ∧ (∀ y0 y1 y2 y3, LeO (erratumlaw09_CheadBack.j1 k y0 y1 y2 y3) (erratumlaw09_CheadBack.j1 (k + 1) y0 y1 y2 y3)) ∧ (∀ y0 y1 y2 y3 y4 y5 y6 y7 y8 y9 y10, LeO (erratumlaw09_CheadBack.l0 k y0 y1 y2 y3 y4 y5 y6 y7 y8 y9 y10) (erratumlaw09_CheadBack.l0 (k + 1) y0 y1 y2 y3 y4 y5 y6 y7 y8 y9 y10))
  | 0 => ⟨fun _ _ _ r h => by simp [erratumlaw09_CheadBack.j0] at h, fun _ _ _ _ r h => by simp [erratumlaw09_CheadBack.j1] at h, fun _ _ _ _ _ _ _ _ _ _ _ r h => by simp [erratumlaw09_CheadBack.l0] at h⟩
  | k + 1 => by
    obtain ⟨ih0, ih1, ih2⟩ := erratumlaw09_CheadBack.mono_l k
    refine ⟨?_, ?_, ?_⟩
    · intro y0 y1 y2
      unfold erratumlaw09_CheadBack.j0
      repeat' first
      | (with_reducible exact ih0 _ _ _)
      | (with_reducible exact ih1 _ _ _ _)
      | (with_reducible exact ih2 _ _ _ _ _ _ _ _ _ _ _)
      | (with_reducible exact chead_Get.mono _ _ _)
      | (with_reducible exact LeO.refl _)
      | (with_reducible exact LeO.none _)
      | (with_reducible refine LeO.ite ?_ ?_)
      | (with_reducible refine LeO.bind ?_ (fun _ => ?_))
      | exact ih0 _ _ _
      | exact ih1 _ _ _ _
      | exact ih2 _ _ _ _ _ _ _ _ _ _ _
      | exact chead_Get.mono _ _ _
      | exact LeO.none _
      | refine LeO.ite ?_ ?_
      | refine LeO.bind ?_ (fun _ => ?_)
    · intro y0 y1 y2 y3
      unfold erratumlaw09_CheadBack.j1
      repeat' first
      | (with_reducible exact ih0 _ _ _)
      | (with_reducible exact ih1 _ _ _ _)
      | (with_reducible exact ih2 _ _ _ _ _ _ _ _ _ _ _)
      | (with_reducible exact chead_Get.mono _ _ _)
      | (with_reducible exact LeO.refl _)
      | (with_reducible exact LeO.none _)
      | (with_reducible refine LeO.ite ?_ ?_)
      | (with_reducible refine LeO.bind ?_ (fun _ => ?_))
      | exact ih0 _ _ _
      | exact ih1 _ _ _ _
      | exact ih2 _ _ _ _ _ _ _ _ _ _ _
      | exact chead_Get.mono _ _ _
      | exact LeO.none _
      | refine LeO.ite ?_ ?_
      | refine LeO.bind ?_ (fun _ => ?_)
    · intro y0 y1 y2 y3 y4 y5 y6 y7 y8 y9 y10
      unfold erratumlaw09_CheadBack.l0
      repeat' first
      | (with_reducible exact ih0 _ _ _)
      | (with_reducible exact ih1 _ _ _ _)
      | (with_reducible exact ih2 _ _ _ _ _ _ _ _ _ _ _)
      | (with_reducible exact chead_Get.mono _ _ _)
      | (with_reducible exact LeO.refl _)
      | (with_reducible exact LeO.none _)
      | (with_reducible refine LeO.ite ?_ ?_)
      | (with_reducible refine LeO.bind ?_ (fun _ => ?_))
      | exact ih0 _ _ _
      | exact ih1 _ _ _ _
      | exact ih2 _ _ _ _ _ _ _ _ _ _ _
      | exact chead_Get.mono _ _ _
      | exact LeO.none _
      | refine LeO.ite ?_ ?_
      | refine LeO.bind ?_ (fun _ => ?_)
theorem erratumlaw09_CheadBack.mono : ∀ a0 a1 a2 a3 k, LeO (erratumlaw09_CheadBack.f k a0 a1 a2 a3) (erratumlaw09_CheadBack.f (k + 1) a0 a1 a2 a3) := by
  intro a0 a1 a2 a3 k
  obtain ⟨ih0, ih1, ih2⟩ := erratumlaw09_CheadBack.mono_l k
  unfold erratumlaw09_CheadBack.f
  repeat' first
      | (with_reducible exact ih0 _ _ _)
      | (with_reducible exact ih1 _ _ _ _)
      | (with_reducible exact ih2 _ _ _ _ _ _ _ _ _ _ _)
      | (with_reducible exact chead_Get.mono _ _ _)
      | (with_reducible exact LeO.refl _)
      | (with_reducible exact LeO.none _)
      | (with_reducible refine LeO.ite ?_ ?_)
      | (with_reducible refine LeO.bind ?_ (fun _ => ?_))
      | exact ih0 _ _ _
      | exact ih1 _ _ _ _
      | exact ih2 _ _ _ _ _ _ _ _ _ _ _
      | exact chead_Get.mono _ _ _
      | exact LeO.none _
      | refine LeO.ite ?_ ?_
      | refine LeO.bind ?_ (fun _ => ?_)
set_option maxHeartbeats 8000000 in
set_option maxRecDepth 100000 in
theorem erratumlaw09_CheadBack.calls (k : Nat) (a0 : Int) (a1 : Int) (a2 : Int) (a3 : Int) (r : Bool) (w : World) (h : erratumlaw09_CheadBack.f k a0 a1 a2 a3 = some r) :
    Calls Try.prog 5 #[.int .i64 a0, .int .u64 a1, .int .i64 a2, .int .i64 a3] w fun e w' => e = .returned (.bool r) ∧ Below w.heap.size w w' := by
  have HB := Aside0.mk (Below.refl w.heap.size w)
  have H : ((erratumlaw00_Place.f a2 65).bind fun t180 => (if t180 < 64 then (if 0 ≤ (IntKind.u64.wrap (t180)) then (erratumlaw09_CheadBack.j0 k a0 a3 (Go.bits .and .u64 a1 (IntKind.u64.wrap ((shl .u64 1 (IntKind.u64.wrap (t180))) - 1)))) else (none)) else (erratumlaw09_CheadBack.j0 k a0 a3 a1))) = some r := h
  clear h
  replace H := Option.bind_eq_some_iff.mp H
  obtain ⟨t180, A50, H⟩ := H
  replace H : (if t180 < 64 then (if 0 ≤ (IntKind.u64.wrap (t180)) then (erratumlaw09_CheadBack.j0 k a0 a3 (Go.bits .and .u64 a1 (IntKind.u64.wrap ((shl .u64 1 (IntKind.u64.wrap (t180))) - 1)))) else (none)) else (erratumlaw09_CheadBack.j0 k a0 a3 a1)) = some r := H
  have A5 := Aside0.mk A50
  clear A50
  have HC6 := Aside0.mk H
  clear H
  go_enter Try.func5, Try.ntmps5
  go_upto_if 37 with (first | ((with_reducible refine gate_callee (f := 10) rfl ?_); refine goesL_ (some 34) rfl rfl Try.func10 (by kernel_rfl) rfl #[.int .i64 a2, .int .i64 65] rfl (by (try simp only [List.map_toArray, List.map_cons, List.map_nil]); first | done | rfl | (simp only [List.length_drop, List.length_take]; rfl)) ?_; (with_reducible refine (erratumlaw00_Place.calls a2 65 t180 _ A5.out).mono ?_); rintro e w' ⟨rfl, ⟨nd, rfl⟩⟩; refine ⟨_, rfl, ?_⟩))
  (try simp only [Act.put, List.setIfInBounds_toArray, List.set_cons_zero, List.set_cons_succ])
  go_cut [10] (fun v10 wc => ∃ (kq : Nat) (x10_5 : Int), v10 = .int .u64 x10_5 ∧ Aside0 (erratumlaw09_CheadBack.j0 kq a0 a3 x10_5 = some r) ∧ Aside0 (kq ≤ k) ∧ Aside0 (Below w.heap.size w wc))
  case first =>
    have H := HC6.out
    clear HC6
    by_cases c7 : t180 < 64
    · rw [if_pos c7] at H
      have c7b0 : decide (t180 < 64) = true := decide_eq_true c7
      clear c7
      (first | rw [c7b0] | (simp only [i64_w, i32_w]; rw [c7b0]) | skip)
      obtain ⟨ji8, hji8⟩ : ∃ j_ : Int, (IntKind.u64.wrap (t180)) = j_ := ⟨_, rfl⟩
      replace H : (if 0 ≤ (ji8) then (erratumlaw09_CheadBack.j0 k a0 a3 (Go.bits .and .u64 a1 (IntKind.u64.wrap ((shl .u64 1 (ji8)) - 1)))) else (none)) = some r := by first | (rw [hji8] at H; exact H) | (simp only [hji8] at H ⊢; exact H)
      by_cases c9 : 0 ≤ (ji8)
      · rw [if_pos c9] at H
        have c9b0 := eq_true c9
        have c9b1 : decide (0 ≤ (ji8)) = true := decide_eq_true c9
        clear c9
        obtain ⟨ji10, hji10⟩ : ∃ j_ : Int, (shl .u64 1 (ji8)) = j_ := ⟨_, rfl⟩
        replace H : (erratumlaw09_CheadBack.j0 k a0 a3 (Go.bits .and .u64 a1 (IntKind.u64.wrap ((ji10) - 1)))) = some r := by first | (rw [hji10] at H; exact H) | (simp only [hji10] at H ⊢; exact H)
        have hji10_ : (IntKind.u64.wrap (1 * 2 ^ min (ji8).toNat 64)) = ji10 := hji10
        have hji10z : (ji8) ≤ 64 → (IntKind.u64.wrap (1 * 2 ^ (ji8).toNat)) = ji10 := shl_small hji10
        have hji10N0 := eq_true (x_shl_nonneg .u64 rfl 1 (ji8))
        rw [hji10] at hji10N0
        have hji10N1 : decide (0 ≤ ji10) = true := decide_eq_true (of_eq_true hji10N0)
        have hji10u : (IntKind.u64.wrap (2 ^ min (ji8).toNat 64)) = ji10 := by have h_ := hji10_; rw [Int.one_mul] at h_; exact h_
        have hji10v : (ji8) ≤ 64 → (IntKind.u64.wrap (2 ^ (ji8).toNat)) = ji10 := fun hle_ => by have h_ := hji10z hle_; rw [Int.one_mul] at h_; exact h_
        have H' := Aside0.mk H
        clear H
        go_wp2
        go_meet
        case rel => exact ⟨_, (Go.bits .and .u64 a1 (IntKind.u64.wrap ((ji10) - 1))), (by first | rfl | (simp; done) | (simp only [← hji10] <;> (first | rfl | simp)) | (simp [*]; done)), H', ⟨by first | omega | exact Nat.le_refl _⟩, ⟨by repeat (first | (with_reducible first | exact HB.out | apply below_alloc | apply pw_below_drewN | apply below_drew1) | exact HB.out)⟩⟩
      · rw [if_neg c9] at H
        exact absurd H (by simp)
    · rw [if_neg c7] at H
      have c7b0 : decide (t180 < 64) = false := decide_eq_false c7
      clear c7
      (first | rw [c7b0] | (simp only [i64_w, i32_w]; rw [c7b0]) | skip)
      have H' := Aside0.mk H
      clear H
      go_wp2
      go_meet
      case rel => exact ⟨_, (a1), (by first | rfl | (simp; done) | (simp [*]; done)), H', ⟨by first | omega | exact Nat.le_refl _⟩, ⟨by repeat (first | (with_reducible first | exact HB.out | apply below_alloc | apply pw_below_drewN | apply below_drew1) | exact HB.out)⟩⟩
  case rest =>
    clear HC6
    try clear c1
    try clear p2
    try clear c5
    try clear c7
    try clear c7b0
    try clear c9
    try clear c9b0
    try clear c9b1
    try clear c10
    obtain ⟨kq, x10_5, rfl, HA, HJ5, HB⟩ := hcut
    cases kq with
    | zero => exact absurd HA.out (by simp [erratumlaw09_CheadBack.j0])
    | succ kj5 =>
      have H := HA.out
      clear HA
      simp only [erratumlaw09_CheadBack.j0] at H
      have HC11 := Aside0.mk H
      clear H
      go_upto_block 0 with (fail)
      go_cut [11] (fun v11 wc => ∃ (kq : Nat) (x11_10 : Int), v11 = .int .i64 x11_10 ∧ Aside0 (erratumlaw09_CheadBack.j1 kq a0 a3 x10_5 x11_10 = some r) ∧ Aside0 (kq ≤ kj5) ∧ Aside0 (Below w.heap.size w wc))
      case first =>
        have H := HC11.out
        clear HC11
        by_cases c12 : x10_5 < 24
        · rw [if_pos c12] at H
          have c12b0 : decide (x10_5 < 24) = true := decide_eq_true c12
          clear c12
          (first | rw [c12b0] | (simp only [i64_w, i32_w]; rw [c12b0]) | skip)
          have H' := Aside0.mk H
          clear H
          go_wp2
          go_meet
          case rel => exact ⟨_, (1), (by first | rfl | (simp; done) | (simp [*]; done)), H', ⟨by have := HJ5.out; first | omega | exact Nat.le_refl _⟩, ⟨by repeat (first | (with_reducible first | exact HB.out | apply below_alloc | apply pw_below_drewN | apply below_drew1) | exact HB.out)⟩⟩
        · rw [if_neg c12] at H
          have c12b0 : decide (x10_5 < 24) = false := decide_eq_false c12
          clear c12
          (first | rw [c12b0] | (simp only [i64_w, i32_w]; rw [c12b0]) | skip)
          by_cases c13 : x10_5 < 256
          · rw [if_pos c13] at H
            have c13b0 : decide (x10_5 < 256) = true := decide_eq_true c13
            clear c13
            have H' := Aside0.mk H
            clear H
            go_wp2
            go_meet
            case rel => exact ⟨_, (2), (by first | rfl | (simp; done) | (simp [*]; done)), H', ⟨by have := HJ5.out; first | omega | exact Nat.le_refl _⟩, ⟨by repeat (first | (with_reducible first | exact HB.out | apply below_alloc | apply pw_below_drewN | apply below_drew1) | exact HB.out)⟩⟩
          · rw [if_neg c13] at H
            have c13b0 : decide (x10_5 < 256) = false := decide_eq_false c13
            clear c13
            by_cases c14 : x10_5 < 65536
            · rw [if_pos c14] at H
              have c14b0 : decide (x10_5 < 65536) = true := decide_eq_true c14
              clear c14
              have H' := Aside0.mk H
              clear H
              go_wp2
              go_meet
              case rel => exact ⟨_, (3), (by first | rfl | (simp; done) | (simp [*]; done)), H', ⟨by have := HJ5.out; first | omega | exact Nat.le_refl _⟩, ⟨by repeat (first | (with_reducible first | exact HB.out | apply below_alloc | apply pw_below_drewN | apply below_drew1) | exact HB.out)⟩⟩
            · rw [if_neg c14] at H
              have c14b0 : decide (x10_5 < 65536) = false := decide_eq_false c14
              clear c14
              by_cases c15 : x10_5 < 4294967296
              · rw [if_pos c15] at H
                have c15b0 : decide (x10_5 < 4294967296) = true := decide_eq_true c15
                clear c15
                have H' := Aside0.mk H
                clear H
                go_wp2
                go_meet
                case rel => exact ⟨_, (5), (by first | rfl | (simp; done) | (simp [*]; done)), H', ⟨by have := HJ5.out; first | omega | exact Nat.le_refl _⟩, ⟨by repeat (first | (with_reducible first | exact HB.out | apply below_alloc | apply pw_below_drewN | apply below_drew1) | exact HB.out)⟩⟩
              · rw [if_neg c15] at H
                have c15b0 : decide (x10_5 < 4294967296) = false := decide_eq_false c15
                clear c15
                have H' := Aside0.mk H
                clear H
                go_wp2
                go_meet
                case rel => exact ⟨_, (9), (by first | rfl | (simp; done) | (simp [*]; done)), H', ⟨by have := HJ5.out; first | omega | exact Nat.le_refl _⟩, ⟨by repeat (first | (with_reducible first | exact HB.out | apply below_alloc | apply pw_below_drewN | apply below_drew1) | exact HB.out)⟩⟩
      case rest =>
        clear HC11
        try clear c1
        try clear p2
        try clear c5
        try clear c7
        try clear c7b0
        try clear c9
        try clear c9b0
        try clear c9b1
        try clear c10
        try clear c12
        try clear c12b0
        try clear c13
        try clear c13b0
        try clear c14
        try clear c14b0
        try clear c15
        try clear c15b0
        try clear p2
        obtain ⟨kq, x11_10, rfl, HA, HJ10, HB⟩ := hcut
        cases kq with
        | zero => exact absurd HA.out (by simp [erratumlaw09_CheadBack.j1])
        | succ kj10 =>
          have H := HA.out
          clear HA
          simp only [erratumlaw09_CheadBack.j1] at H
          replace H := Option.bind_eq_some_iff.mp H
          obtain ⟨t181, A160, H⟩ := H
          replace H : ((chead_Put.f (([1] : List Int)) t181 x10_5).bind fun t185 => (if (t185.length : Int) = (wrap64 (x11_10 + 1)) then ((chead_Get.f kj10 t185 1).bind fun bt188 => (if 0 ≤ (wrap64 ((t185.length : Int) - 1)) then (if (wrap64 ((t185.length : Int) - 1)) ≤ (t185.length : Int) then ((chead_Get.f kj10 (t185.take ((wrap64 ((t185.length : Int) - 1)) : Int).toNat) 1).bind fun bt197 => ((erratumlaw00_Place.f a3 4).bind fun t202 => (if 0 ≤ (IntKind.u64.wrap (t202)) then (erratumlaw09_CheadBack.l0 kj10 x10_5 x11_10 t181 bt188.1 bt188.2.2.1 bt188.2.2.2.1 bt188.2.2.2.2 bt197.2.2.2.2 t202 (([(wrap64 ((wrap64 ((wrap64 (t181 * 32)) + 24)) + t202)) % 256] : List Int)) (wrap64 ((shl .i64 1 (IntKind.u64.wrap (t202))) - 1))) else (none)))) else (none)) else (none))) else (some false))) = some r := H
          have A16 := Aside0.mk A160
          clear A160
          obtain ⟨y182, hy182⟩ : ∃ y_ : List Int, y_ = (([1] : List Int)) := ⟨_, rfl⟩
          replace H : ((chead_Put.f y182 t181 x10_5).bind fun t185 => (if (t185.length : Int) = (wrap64 (x11_10 + 1)) then ((chead_Get.f kj10 t185 1).bind fun bt188 => (if 0 ≤ (wrap64 ((t185.length : Int) - 1)) then (if (wrap64 ((t185.length : Int) - 1)) ≤ (t185.length : Int) then ((chead_Get.f kj10 (t185.take ((wrap64 ((t185.length : Int) - 1)) : Int).toNat) 1).bind fun bt197 => ((erratumlaw00_Place.f a3 4).bind fun t202 => (if 0 ≤ (IntKind.u64.wrap (t202)) then (erratumlaw09_CheadBack.l0 kj10 x10_5 x11_10 t181 bt188.1 bt188.2.2.1 bt188.2.2.2.1 bt188.2.2.2.2 bt197.2.2.2.2 t202 (([(wrap64 ((wrap64 ((wrap64 (t181 * 32)) + 24)) + t202)) % 256] : List Int)) (wrap64 ((shl .i64 1 (IntKind.u64.wrap (t202))) - 1))) else (none)))) else (none)) else (none))) else (some false))) = some r := by first | (rw [hy182]; with_reducible exact H) | (have H2_ := (Option.bind_some _ _).symm.trans H; rw [hy182]; with_reducible exact H2_) | (have H2_ := (Option.bind_some _ _).symm.trans H; with_reducible exact H2_) | with_reducible exact H | (rw [hy182]; exact H) | exact H
          have Ny182 := Aside0.mk hy182
          clear hy182
          replace H := Option.bind_eq_some_iff.mp H
          obtain ⟨t185, A170, H⟩ := H
          replace H : (if (t185.length : Int) = (wrap64 (x11_10 + 1)) then ((chead_Get.f kj10 t185 1).bind fun bt188 => (if 0 ≤ (wrap64 ((t185.length : Int) - 1)) then (if (wrap64 ((t185.length : Int) - 1)) ≤ (t185.length : Int) then ((chead_Get.f kj10 (t185.take ((wrap64 ((t185.length : Int) - 1)) : Int).toNat) 1).bind fun bt197 => ((erratumlaw00_Place.f a3 4).bind fun t202 => (if 0 ≤ (IntKind.u64.wrap (t202)) then (erratumlaw09_CheadBack.l0 kj10 x10_5 x11_10 t181 bt188.1 bt188.2.2.1 bt188.2.2.2.1 bt188.2.2.2.2 bt197.2.2.2.2 t202 (([(wrap64 ((wrap64 ((wrap64 (t181 * 32)) + 24)) + t202)) % 256] : List Int)) (wrap64 ((shl .i64 1 (IntKind.u64.wrap (t202))) - 1))) else (none)))) else (none)) else (none))) else (some false)) = some r := H
          have A17 := Aside0.mk A170
          clear A170
          by_cases c18 : (t185.length : Int) = (wrap64 (x11_10 + 1))
          · rw [if_pos c18] at H
            have c18b0 : ((t185.length : Int) == (wrap64 (x11_10 + 1))) = true := beq_iff_eq.mpr c18
            have c18b1 : ((t185.length : Int) != (wrap64 (x11_10 + 1))) = false := bne_eq_false_iff_eq.mpr c18
            clear c18
            replace H := Option.bind_eq_some_iff.mp H
            obtain ⟨⟨t188, t189, t190, t191, t192⟩, A190, H⟩ := H
            replace H : (if 0 ≤ (wrap64 ((t185.length : Int) - 1)) then (if (wrap64 ((t185.length : Int) - 1)) ≤ (t185.length : Int) then ((chead_Get.f kj10 (t185.take ((wrap64 ((t185.length : Int) - 1)) : Int).toNat) 1).bind fun bt197 => ((erratumlaw00_Place.f a3 4).bind fun t202 => (if 0 ≤ (IntKind.u64.wrap (t202)) then (erratumlaw09_CheadBack.l0 kj10 x10_5 x11_10 t181 t188 t190 t191 t192 bt197.2.2.2.2 t202 (([(wrap64 ((wrap64 ((wrap64 (t181 * 32)) + 24)) + t202)) % 256] : List Int)) (wrap64 ((shl .i64 1 (IntKind.u64.wrap (t202))) - 1))) else (none)))) else (none)) else (none)) = some r := H
            have A19 := Aside0.mk A190
            clear A190
            obtain ⟨ji20, hji20⟩ : ∃ j_ : Int, (wrap64 ((t185.length : Int) - 1)) = j_ := ⟨_, rfl⟩
            replace H : (if 0 ≤ (ji20) then (if (ji20) ≤ (t185.length : Int) then ((chead_Get.f kj10 (t185.take ((ji20) : Int).toNat) 1).bind fun bt197 => ((erratumlaw00_Place.f a3 4).bind fun t202 => (if 0 ≤ (IntKind.u64.wrap (t202)) then (erratumlaw09_CheadBack.l0 kj10 x10_5 x11_10 t181 t188 t190 t191 t192 bt197.2.2.2.2 t202 (([(wrap64 ((wrap64 ((wrap64 (t181 * 32)) + 24)) + t202)) % 256] : List Int)) (wrap64 ((shl .i64 1 (IntKind.u64.wrap (t202))) - 1))) else (none)))) else (none)) else (none)) = some r := by first | (rw [hji20] at H; exact H) | (simp only [hji20] at H ⊢; exact H)
            (try rw [hji20] at A16)
            (try rw [hji20] at A17)
            (try rw [hji20] at A19)
            have hji20w : (IntKind.i64.wrap ((t185.length : Int) - 1)) = ji20 := (i64_w _).trans hji20
            by_cases c21 : 0 ≤ (ji20)
            · rw [if_pos c21] at H
              have c21b0 := eq_true c21
              have c21b1 : decide (0 ≤ (ji20)) = true := decide_eq_true c21
              clear c21
              by_cases c22 : (ji20) ≤ (t185.length : Int)
              · rw [if_pos c22] at H
                have c22b0 := eq_true c22
                have c22b1 : decide ((ji20) ≤ (t185.length : Int)) = true := decide_eq_true c22
                clear c22
                obtain ⟨y193, hy193⟩ : ∃ y_ : List Int, y_ = (t185.take ((ji20) : Int).toNat) := ⟨_, rfl⟩
                replace H : ((chead_Get.f kj10 y193 1).bind fun bt197 => ((erratumlaw00_Place.f a3 4).bind fun t202 => (if 0 ≤ (IntKind.u64.wrap (t202)) then (erratumlaw09_CheadBack.l0 kj10 x10_5 x11_10 t181 t188 t190 t191 t192 bt197.2.2.2.2 t202 (([(wrap64 ((wrap64 ((wrap64 (t181 * 32)) + 24)) + t202)) % 256] : List Int)) (wrap64 ((shl .i64 1 (IntKind.u64.wrap (t202))) - 1))) else (none)))) = some r := by first | (rw [hy193]; with_reducible exact H) | (have H2_ := (Option.bind_some _ _).symm.trans H; rw [hy193]; with_reducible exact H2_) | (have H2_ := (Option.bind_some _ _).symm.trans H; with_reducible exact H2_) | with_reducible exact H | (rw [hy193]; exact H) | exact H
                have Ny193 := Aside0.mk hy193
                clear hy193
                replace H := Option.bind_eq_some_iff.mp H
                obtain ⟨⟨t197, t198, t199, t200, t201⟩, A230, H⟩ := H
                replace H : ((erratumlaw00_Place.f a3 4).bind fun t202 => (if 0 ≤ (IntKind.u64.wrap (t202)) then (erratumlaw09_CheadBack.l0 kj10 x10_5 x11_10 t181 t188 t190 t191 t192 t201 t202 (([(wrap64 ((wrap64 ((wrap64 (t181 * 32)) + 24)) + t202)) % 256] : List Int)) (wrap64 ((shl .i64 1 (IntKind.u64.wrap (t202))) - 1))) else (none))) = some r := H
                have A23 := Aside0.mk A230
                clear A230
                replace H := Option.bind_eq_some_iff.mp H
                obtain ⟨t202, A240, H⟩ := H
                replace H : (if 0 ≤ (IntKind.u64.wrap (t202)) then (erratumlaw09_CheadBack.l0 kj10 x10_5 x11_10 t181 t188 t190 t191 t192 t201 t202 (([(wrap64 ((wrap64 ((wrap64 (t181 * 32)) + 24)) + t202)) % 256] : List Int)) (wrap64 ((shl .i64 1 (IntKind.u64.wrap (t202))) - 1))) else (none)) = some r := H
                have A24 := Aside0.mk A240
                clear A240
                obtain ⟨y203, hy203⟩ : ∃ y_ : List Int, y_ = (([(wrap64 ((wrap64 ((wrap64 (t181 * 32)) + 24)) + t202)) % 256] : List Int)) := ⟨_, rfl⟩
                replace H : (if 0 ≤ (IntKind.u64.wrap (t202)) then (erratumlaw09_CheadBack.l0 kj10 x10_5 x11_10 t181 t188 t190 t191 t192 t201 t202 y203 (wrap64 ((shl .i64 1 (IntKind.u64.wrap (t202))) - 1))) else (none)) = some r := by first | (rw [hy203]; with_reducible exact H) | (have H2_ := (Option.bind_some _ _).symm.trans H; rw [hy203]; with_reducible exact H2_) | (have H2_ := (Option.bind_some _ _).symm.trans H; with_reducible exact H2_) | with_reducible exact H | (rw [hy203]; exact H) | exact H
                have Ny203 := Aside0.mk hy203
                clear hy203
                obtain ⟨ji25, hji25⟩ : ∃ j_ : Int, (IntKind.u64.wrap (t202)) = j_ := ⟨_, rfl⟩
                replace H : (if 0 ≤ (ji25) then (erratumlaw09_CheadBack.l0 kj10 x10_5 x11_10 t181 t188 t190 t191 t192 t201 t202 y203 (wrap64 ((shl .i64 1 (ji25)) - 1))) else (none)) = some r := by first | (rw [hji25] at H; exact H) | (simp only [hji25] at H ⊢; exact H)
                (try rw [hji25] at A16)
                (try rw [hji25] at A17)
                (try rw [hji25] at A19)
                (try rw [hji25] at A23)
                (try rw [hji25] at A24)
                by_cases c26 : 0 ≤ (ji25)
                · rw [if_pos c26] at H
                  have c26b0 := eq_true c26
                  have c26b1 : decide (0 ≤ (ji25)) = true := decide_eq_true c26
                  clear c26
                  obtain ⟨ji27, hji27⟩ : ∃ j_ : Int, (shl .i64 1 (ji25)) = j_ := ⟨_, rfl⟩
                  replace H : (erratumlaw09_CheadBack.l0 kj10 x10_5 x11_10 t181 t188 t190 t191 t192 t201 t202 y203 (wrap64 ((ji27) - 1))) = some r := by first | (rw [hji27] at H; exact H) | (simp only [hji27] at H ⊢; exact H)
                  (try rw [hji27] at A16)
                  (try rw [hji27] at A17)
                  (try rw [hji27] at A19)
                  (try rw [hji27] at A23)
                  (try rw [hji27] at A24)
                  have hji27_ : (IntKind.i64.wrap (1 * 2 ^ min (ji25).toNat 64)) = ji27 := hji27
                  have hji27z : (ji25) ≤ 64 → (IntKind.i64.wrap (1 * 2 ^ (ji25).toNat)) = ji27 := shl_small hji27
                  have hji27u : (IntKind.i64.wrap (2 ^ min (ji25).toNat 64)) = ji27 := by have h_ := hji27_; rw [Int.one_mul] at h_; exact h_
                  have hji27v : (ji25) ≤ 64 → (IntKind.i64.wrap (2 ^ (ji25).toNat)) = ji27 := fun hle_ => by have h_ := hji27z hle_; rw [Int.one_mul] at h_; exact h_
                  have hji27y : (wrap64 (1 * 2 ^ min (ji25).toNat 64)) = ji27 := (i64_w _).symm.trans hji27_
                  have hji27x : (ji25) ≤ 64 → (wrap64 (1 * 2 ^ (ji25).toNat)) = ji27 := fun h_ => (i64_w _).symm.trans (hji27z h_)
                  have H' := Aside0.mk H
                  clear H
                  go_wp2_with (first | ((with_reducible refine gate_callee (f := 10) rfl ?_); refine goesL_ (some 57) rfl rfl Try.func10 (by kernel_rfl) rfl #[.int .i64 a0, .int .i64 8] rfl (by (try simp only [List.map_toArray, List.map_cons, List.map_nil]); first | done | rfl | (simp only [List.length_drop, List.length_take]; rfl)) ?_; (with_reducible refine (erratumlaw00_Place.calls a0 8 t181 _ A16.out).mono ?_); rintro e w' ⟨rfl, ⟨nd, rfl⟩⟩; refine ⟨_, rfl, ?_⟩) | ((with_reducible refine gate_dst (N := 58) rfl ?_); refine Kd.R_lit (Kd.int .u8) _ 5 ?hg (N := 58) ?hd (xs := ([1] : List Int)) (inner := [.int .u8 1]) (ok := fun _ => True) (okp := fun _ => True) ?hr ?hp (fun _ hk => hk) trivial (Below.refl _ _) (Nat.le_refl _) (by simp) ?_; (case hd => rfl); (case hg => rfl); (case hr => first | (go_simp; done) | (go_simp; rfl)); (case hp => exact (Reps.one (show Kd.M (Kd.int .u8) _ _ _ 1 [.int .u8 1] from rfl) (Reps.none _ _))); intro v183 w28 ho29 hb hg_ hnew_; clear hg_ hnew_; (first | rw [← Ny182.out] at ho29 | (simp only [Int.reduceToNat] at ho29; rw [← Ny182.out] at ho29)); have n0_ := Aside0.mk (Kd.R_lower ho29 (below_size (by repeat (first | (with_reducible first | exact HB.out | apply below_alloc | apply pw_below_drewN | apply below_drew1) | exact HB.out)))); have n1_ := Aside0.mk (below_step (by repeat (first | (with_reducible first | exact HB.out | apply below_alloc | apply pw_below_drewN | apply below_drew1) | exact HB.out)) hb); clear HB; have HO184 := n0_; have HB := n1_; clear n0_ n1_; clear hb ho29; obtain ⟨Ao30, co30, eo30⟩ := Kd.R_slice HO184.out; subst eo30) | ((with_reducible refine gate_callee (f := 11) rfl ?_); refine goesL_ (some 61) rfl rfl Try.func11 (by kernel_rfl) rfl #[.slice Ao30 y182.length co30, .int .i64 t181, .int .u64 x10_5] rfl (by (try simp only [List.map_toArray, List.map_cons, List.map_nil]); first | done | rfl | (simp only [List.length_drop, List.length_take]; rfl)) ?_; (with_reducible refine (chead_Put.calls _ _ y182 t181 x10_5 t185 _ ?side1 ?side2 A17.out).mono ?_); (case side1 => repeat (first | exact (Kd.R_reads' HO184.out).2.2 | (with_reducible refine Kd.C_alloc ?_ _) | (with_reducible refine Kd.C_drewN ?_ _) | (with_reducible refine Kd.C_drew ?_))); (case side2 => exact (Kd.R_reads' HO184.out).2.1); rintro e w31 ⟨v186, rfl, ho0, hb⟩; refine ⟨_, rfl, ?_⟩; have n0_ := Aside0.mk (Kd.R_elder' (by (with_reducible repeat (first | apply Kd.R_alloc | apply Kd.R_drewN | apply Kd.R_drew)); exact HO184.out) (Kd.R_base ho0) hb); have n1_ := Aside0.mk (Kd.R_lower (Kd.R_new' ho0 (Kd.R_lt (by (with_reducible repeat (first | apply Kd.R_alloc | apply Kd.R_drewN | apply Kd.R_drew)); exact HO184.out))) (below_size (by repeat (first | (with_reducible first | exact HB.out | apply below_alloc | apply pw_below_drewN | apply below_drew1) | exact HB.out)))); have n2_ := Aside0.mk (below_step (by repeat (first | (with_reducible first | exact HB.out | apply below_alloc | apply pw_below_drewN | apply below_drew1) | exact HB.out)) hb); clear HO184; clear HB; have HO184 := n0_; have HO187 := n1_; have HB := n2_; clear n0_ n1_ n2_; (try clear hb); (try clear hb2); (try clear hk); (try clear hi); (try clear ho0); obtain ⟨Ao32, co32, eo32⟩ := Kd.R_slice HO187.out; subst eo32) | ((with_reducible refine gate_callee (f := 14) rfl ?_); refine goesL_ (some 69) rfl rfl Try.func14 (by kernel_rfl) rfl #[.slice Ao32 t185.length co32, .int .i64 1] rfl (by (try simp only [List.map_toArray, List.map_cons, List.map_nil]); first | done | rfl | (simp only [List.length_drop, List.length_take]; rfl)) ?_; (with_reducible refine (chead_Get.calls kj10 _ _ t185 1 t188 t189 t190 t191 t192 _ ?side1 ?side2 A19.out).mono ?_); (case side1 => repeat (first | exact (Kd.R_reads' HO187.out).2.2 | (with_reducible refine Kd.C_alloc ?_ _) | (with_reducible refine Kd.C_drewN ?_ _) | (with_reducible refine Kd.C_drew ?_))); (case side2 => exact (Kd.R_reads' HO187.out).2.1); rintro e w' ⟨rfl, ⟨nd, rfl⟩⟩; refine ⟨_, rfl, ?_⟩; have q33 : ((ji20) : Int) ≤ ((t185.length : Int) : Int) := of_decide_eq_true (by first | (with_reducible assumption) | assumption); obtain ⟨i033, hi033, _, hsz33, _⟩ := info_parts info5; have hroom33 : t185.length ≤ co32 := (Kd.R_reads' HO187.out).2.1; have hC33 : Kd.C (Kd.int .u8) _ Ao32 t185.length t185 := (Kd.R_reads' HO187.out).2.2; have hcut33 := cut_to (P := Try.prog) 25 5 .i64 Try.underlying25 hi033 Ao32 t185.length co32 (ji20) (of_decide_eq_true (by first | (with_reducible assumption) | assumption)) q33 hroom33; have hr33 := Kd.C_take (m := ((ji20) : Int).toNat) hC33 (by omega); have hy33 : y193.length = ((ji20) : Int).toNat := (by rw [Ny193.out, List.length_take]; omega); rw [← Ny193.out] at hr33; rw [← hy33] at hcut33; have HR196 := Aside0.mk hr33; have HC196 := Aside0.mk (show y193.length ≤ co32 from by omega); clear hr33 hC33 hroom33 hi033 hsz33; have KY33 := Aside0.mk hy33; clear hy33; have KL33 := Aside0.mk (show ((ji20) : Int).toNat ≤ t185.length from by omega); replace q33 := eq_true q33) | ((with_reducible refine gate_callee (f := 14) rfl ?_); refine goesL_ (some 81) rfl rfl Try.func14 (by kernel_rfl) rfl #[.slice Ao32 y193.length co32, .int .i64 1] rfl (by (try simp only [List.map_toArray, List.map_cons, List.map_nil]); first | done | rfl | (simp only [List.length_drop, List.length_take]; rfl)) ?_; (with_reducible refine (chead_Get.calls kj10 _ _ y193 1 t197 t198 t199 t200 t201 _ ?side1 ?side2 A23.out).mono ?_); (case side1 => repeat (first | exact (by repeat (first | (with_reducible exact HR196.out) | (with_reducible refine Kd.C_alloc ?_ _) | (with_reducible refine Kd.C_drewN ?_ _) | (with_reducible refine Kd.C_drew ?_) | exact HR196.out)) | (with_reducible refine Kd.C_alloc ?_ _) | (with_reducible refine Kd.C_drewN ?_ _) | (with_reducible refine Kd.C_drew ?_))); (case side2 => exact HC196.out); rintro e w' ⟨rfl, ⟨nd, rfl⟩⟩; refine ⟨_, rfl, ?_⟩) | ((with_reducible refine gate_callee (f := 10) rfl ?_); refine goesL_ (some 88) rfl rfl Try.func10 (by kernel_rfl) rfl #[.int .i64 a3, .int .i64 4] rfl (by (try simp only [List.map_toArray, List.map_cons, List.map_nil]); first | done | rfl | (simp only [List.length_drop, List.length_take]; rfl)) ?_; (with_reducible refine (erratumlaw00_Place.calls a3 4 t202 _ A24.out).mono ?_); rintro e w' ⟨rfl, ⟨nd, rfl⟩⟩; refine ⟨_, rfl, ?_⟩) | ((with_reducible refine gate_dst (N := 95) rfl ?_); refine Kd.R_lit (Kd.int .u8) _ 5 ?hg (N := 95) ?hd (xs := ([(wrap64 ((wrap64 ((wrap64 (t181 * 32)) + 24)) + t202)) % 256] : List Int)) (inner := [.int .u8 ((wrap64 ((wrap64 ((wrap64 (t181 * 32)) + 24)) + t202)) % 256)]) (ok := fun _ => True) (okp := fun _ => True) ?hr ?hp (fun _ hk => hk) trivial (Below.refl _ _) (Nat.le_refl _) (by simp) ?_; (case hd => rfl); (case hg => rfl); (case hr => first | (go_simp; done) | (go_simp; rfl)); (case hp => exact (Reps.one (show Kd.M (Kd.int .u8) _ _ _ ((wrap64 ((wrap64 ((wrap64 (t181 * 32)) + 24)) + t202)) % 256) [.int .u8 ((wrap64 ((wrap64 ((wrap64 (t181 * 32)) + 24)) + t202)) % 256)] from rfl) (Reps.none _ _))); intro v204 w34 ho35 hb hg_ hnew_; clear hg_ hnew_; (first | rw [← Ny203.out] at ho35 | (simp only [Int.reduceToNat] at ho35; rw [← Ny203.out] at ho35)); have n0_ := Aside0.mk (Kd.R_elder' (by (with_reducible repeat (first | apply Kd.R_alloc | apply Kd.R_drewN | apply Kd.R_drew)); exact HO184.out) (Kd.R_base ho35) hb); have n1_ := Aside0.mk (Kd.R_elder' (by (with_reducible repeat (first | apply Kd.R_alloc | apply Kd.R_drewN | apply Kd.R_drew)); exact HO187.out) (Kd.R_base ho35) hb); have n2_ := Aside0.mk (Kd.R_lower (Kd.R_new' (Kd.R_new' ho35 (Kd.R_lt (by (with_reducible repeat (first | apply Kd.R_alloc | apply Kd.R_drewN | apply Kd.R_drew)); exact HO184.out))) (Kd.R_lt (by (with_reducible repeat (first | apply Kd.R_alloc | apply Kd.R_drewN | apply Kd.R_drew)); exact HO187.out))) (below_size (by repeat (first | (with_reducible first | exact HB.out | apply below_alloc | apply pw_below_drewN | apply below_drew1) | exact HB.out)))); have n3_ := Aside0.mk (Kd.C_below (by repeat (first | (with_reducible exact HR196.out) | (with_reducible refine Kd.C_alloc ?_ _) | (with_reducible refine Kd.C_drewN ?_ _) | (with_reducible refine Kd.C_drew ?_) | exact HR196.out)) hb); have n4_ := Aside0.mk (below_step (by repeat (first | (with_reducible first | exact HB.out | apply below_alloc | apply pw_below_drewN | apply below_drew1) | exact HB.out)) hb); clear HO184; clear HO187; clear HR196; clear HB; have HO184 := n0_; have HO187 := n1_; have HO205 := n2_; have HR196 := n3_; have HB := n4_; clear n0_ n1_ n2_ n3_ n4_; clear hb ho35))
                  go_loopg [25, 26] kj10 (fun kq v25 v26 w' => ∃ (x25_3 : List Int) (x26_3 : Int), v26 = .int .i64 x26_3 ∧ Aside0 (erratumlaw09_CheadBack.l0 kq x10_5 x11_10 t181 t188 t190 t191 t192 t201 t202 x25_3 x26_3 = some r) ∧ Aside0 (kq ≤ kj10) ∧ Aside0 (Kd.R (Kd.int .u8) 5 w' w.heap.size (fun _ => True) v25 x25_3) ∧ Aside0 (Below w.heap.size w w'))
                  case atStart => exact ⟨(y203), (wrap64 ((ji27) - 1)), (by first | rfl | (simp; done) | (simp only [← hji27] <;> (first | rfl | simp)) | (simp [*]; done)), H', ⟨Nat.le_refl _⟩, ⟨by (with_reducible repeat (first | apply Kd.R_alloc | apply Kd.R_drewN | apply Kd.R_drew)); exact Kd.R_mono HO205.out (fun _ hk => trivial)⟩, ⟨by repeat (first | (with_reducible first | exact HB.out | apply below_alloc | apply pw_below_drewN | apply below_drew1) | exact HB.out)⟩⟩
                  case round =>
                    clear H'
                    try clear c1
                    try clear c2
                    try clear p2
                    try clear q3
                    try clear c5
                    try clear p6
                    try clear c7
                    try clear c7b0
                    try clear c9
                    try clear c9b0
                    try clear c9b1
                    try clear c10
                    try clear c11
                    try clear c12
                    try clear c12b0
                    try clear c13
                    try clear c13b0
                    try clear c14
                    try clear c14b0
                    try clear c15
                    try clear c15b0
                    try clear c18
                    try clear c18b0
                    try clear c18b1
                    try clear c21
                    try clear c21b0
                    try clear c21b1
                    try clear c22
                    try clear c22b0
                    try clear c22b1
                    try clear c26
                    try clear c26b0
                    try clear c26b1
                    try clear q33
                    try clear p2
                    try clear q33
                    obtain ⟨x25_3, x26_3, rfl, HA, HK3, HO_25, HB⟩ := hrel
                    cases gk with
                    | zero => exact absurd HA.out (by simp [erratumlaw09_CheadBack.l0])
                    | succ k3 =>
                      have H := HA.out
                      clear HA
                      simp only [erratumlaw09_CheadBack.l0] at H
                      by_cases c36 : x26_3 ≥ 0
                      · rw [if_pos c36] at H
                        have c36b0 : decide (0 ≤ x26_3) = true := decide_eq_true c36
                        clear c36
                        obtain ⟨ji37, hji37⟩ : ∃ j_ : Int, (IntKind.u64.wrap (wrap64 (8 * x26_3))) = j_ := ⟨_, rfl⟩
                        replace H : (if 0 ≤ (ji37) then (if x25_3.length < 140737488355328 then (erratumlaw09_CheadBack.l0 k3 x10_5 x11_10 t181 t188 t190 t191 t192 t201 t202 (x25_3 ++ [(shr .u64 x10_5 (ji37)) % 256]) (wrap64 (x26_3 - 1))) else (none)) else (none)) = some r := by first | (rw [hji37] at H; exact H) | (simp only [hji37] at H ⊢; exact H)
                        by_cases c38 : 0 ≤ (ji37)
                        · rw [if_pos c38] at H
                          have c38b0 := eq_true c38
                          have c38b1 : decide (0 ≤ (ji37)) = true := decide_eq_true c38
                          clear c38
                          obtain ⟨ji39, hji39⟩ : ∃ j_ : Int, (shr .u64 x10_5 (ji37)) = j_ := ⟨_, rfl⟩
                          replace H : (if x25_3.length < 140737488355328 then (erratumlaw09_CheadBack.l0 k3 x10_5 x11_10 t181 t188 t190 t191 t192 t201 t202 (x25_3 ++ [(ji39) % 256]) (wrap64 (x26_3 - 1))) else (none)) = some r := by first | (rw [hji39] at H; exact H) | (simp only [hji39] at H ⊢; exact H)
                          have hji39_ : (x10_5 / 2 ^ min (ji37).toNat 64) = ji39 := hji39
                          have hji39z : (ji37) ≤ 64 → (x10_5 / 2 ^ (ji37).toNat) = ji39 := shr_small hji39
                          by_cases c40 : x25_3.length < 140737488355328
                          · rw [if_pos c40] at H
                            have LMc40 := Aside0.mk c40
                            clear c40
                            obtain ⟨y206, hy206⟩ : ∃ y_ : List Int, y_ = (x25_3 ++ [(ji39) % 256]) := ⟨_, rfl⟩
                            replace H : (erratumlaw09_CheadBack.l0 k3 x10_5 x11_10 t181 t188 t190 t191 t192 t201 t202 y206 (wrap64 (x26_3 - 1))) = some r := by first | (rw [hy206]; with_reducible exact H) | (have H2_ := (Option.bind_some _ _).symm.trans H; rw [hy206]; with_reducible exact H2_) | (have H2_ := (Option.bind_some _ _).symm.trans H; with_reducible exact H2_) | with_reducible exact H | (rw [hy206]; exact H) | exact H
                            have Ny206 := Aside0.mk hy206
                            clear hy206
                            have H' := Aside0.mk H
                            clear H
                            go_wp2_with (first | ((with_reducible refine gate_builtin (b := .append) (xs := #[.tmp 104, .tmp 111]) rfl ?_); at_builtin; refine Kd.R_append (Kd.int .u8) (w0 := w) w.heap.size rfl (.tmp 104) (.tmp 111) 25 5 (.int .u8 0) 1 rfl Try.underlying25 info5 rfl (by decide) (by omega) u25 x25_3 ((ji39) % 256) [.int .u8 ((ji39) % 256)] (fun _ => True) (fun _ => False) rfl rfl ?aP (fun _ hk => hk.elim) ?aF ?aO ?aB ?aS ?aL ?_; (case aP => exact rfl); (case aB => exact (by repeat (first | (with_reducible first | exact HB.out | apply below_alloc | apply pw_below_drewN | apply below_drew1) | exact HB.out))); (case aF => exact (fun _ _ => trivial)); (case aO => exact (by (with_reducible repeat (first | apply Kd.R_alloc | apply Kd.R_drewN | apply Kd.R_drew)); exact HO_25.out)); (case aS => exact (below_size (by repeat (first | (with_reducible first | exact HB.out | apply below_alloc | apply pw_below_drewN | apply below_drew1) | exact HB.out)))); (case aL => have := LMc40.out; omega); intro v207 w41 ho hb hg hat; rw [← Ny206.out] at ho; have n0_ := Aside0.mk (hb); have n1_ := Aside0.mk (ho); clear HB; clear HO_25; have HB := n0_; have HO208 := n1_; clear n0_ n1_; clear ho hb hg hat))
                            go_roundg k3
                            case measure => have := HJ5.out; have := HJ10.out; have := HK3.out; omega
                            case rel => exact ⟨(y206), (wrap64 (x26_3 - 1)), (by first | rfl | (simp; done) | (simp [*]; done)), H', ⟨by have := HJ5.out; have := HJ10.out; have := HK3.out; omega⟩, ⟨by (with_reducible repeat (first | apply Kd.R_alloc | apply Kd.R_drewN | apply Kd.R_drew)); exact HO208.out⟩, ⟨by repeat (first | (with_reducible first | exact HB.out | apply below_alloc | apply pw_below_drewN | apply below_drew1) | exact HB.out)⟩⟩
                          · rw [if_neg c40] at H
                            exact absurd H (by simp)
                        · rw [if_neg c38] at H
                          exact absurd H (by simp)
                      · rw [if_neg c36] at H
                        have c36b0 : decide (0 ≤ x26_3) = false := decide_eq_false c36
                        clear c36
                        replace H := Option.bind_eq_some_iff.mp H
                        obtain ⟨⟨t209, t210, t211, t212, t213⟩, A420, H⟩ := H
                        replace H : (if t202 = 3 then (if t188 = t181 then (if t190 = x10_5 then (if t191 = (wrap64 (x11_10 + 1)) then (if t192 = 0 then (if t201 = 2 then (if t213 = 0 then (if t211 = x10_5 then ((erratumlaw09_awake.f).bind fun t214 => (some t214)) else (some false)) else (some false)) else (some false)) else (some false)) else (some false)) else (some false)) else (some false)) else (if 0 ≤ (IntKind.u64.wrap (t202)) then (if t188 = t181 then (if t190 = x10_5 then (if t191 = (wrap64 (x11_10 + 1)) then (if t192 = 0 then (if t201 = 2 then (if t213 = 0 then (if (x10_5 < (shl .u64 1 (shl .u64 8 (IntKind.u64.wrap (t202))))) then (if t211 = x10_5 then ((erratumlaw09_awake.f).bind fun t215 => (some t215)) else (some false)) else ((erratumlaw09_awake.f).bind fun t216 => (some t216))) else (some false)) else (some false)) else (some false)) else (some false)) else (some false)) else (some false)) else (none))) = some r := H
                        have A42 := Aside0.mk A420
                        clear A420
                        by_cases c43 : t202 = 3
                        · rw [if_pos c43] at H
                          have c43b0 : (t202 == 3) = true := beq_iff_eq.mpr c43
                          have c43b1 : (t202 != 3) = false := bne_eq_false_iff_eq.mpr c43
                          clear c43
                          by_cases c44 : t188 = t181
                          · rw [if_pos c44] at H
                            have c44b0 : (t188 == t181) = true := beq_iff_eq.mpr c44
                            have c44b1 : (t188 != t181) = false := bne_eq_false_iff_eq.mpr c44
                            clear c44
                            by_cases c45 : t190 = x10_5
                            · rw [if_pos c45] at H
                              have c45b0 : (t190 == x10_5) = true := beq_iff_eq.mpr c45
                              have c45b1 : (t190 != x10_5) = false := bne_eq_false_iff_eq.mpr c45
                              clear c45
                              by_cases c46 : t191 = (wrap64 (x11_10 + 1))
                              · rw [if_pos c46] at H
                                have c46b0 : (t191 == (wrap64 (x11_10 + 1))) = true := beq_iff_eq.mpr c46
                                have c46b1 : (t191 != (wrap64 (x11_10 + 1))) = false := bne_eq_false_iff_eq.mpr c46
                                clear c46
                                by_cases c47 : t192 = 0
                                · rw [if_pos c47] at H
                                  have c47b0 : (t192 == 0) = true := beq_iff_eq.mpr c47
                                  have c47b1 : (t192 != 0) = false := bne_eq_false_iff_eq.mpr c47
                                  clear c47
                                  by_cases c48 : t201 = 2
                                  · rw [if_pos c48] at H
                                    have c48b0 : (t201 == 2) = true := beq_iff_eq.mpr c48
                                    have c48b1 : (t201 != 2) = false := bne_eq_false_iff_eq.mpr c48
                                    clear c48
                                    by_cases c49 : t213 = 0
                                    · rw [if_pos c49] at H
                                      have c49b0 : (t213 == 0) = true := beq_iff_eq.mpr c49
                                      have c49b1 : (t213 != 0) = false := bne_eq_false_iff_eq.mpr c49
                                      clear c49
                                      by_cases c50 : t211 = x10_5
                                      · rw [if_pos c50] at H
                                        have c50b0 : (t211 == x10_5) = true := beq_iff_eq.mpr c50
                                        have c50b1 : (t211 != x10_5) = false := bne_eq_false_iff_eq.mpr c50
                                        clear c50
                                        replace H := Option.bind_eq_some_iff.mp H
                                        obtain ⟨t214, A510, H⟩ := H
                                        replace H : (some t214) = some r := H
                                        have A51 := Aside0.mk A510
                                        clear A510
                                        obtain rfl := Option.some.inj H
                                        obtain ⟨Ao52, co52, eo52⟩ := Kd.R_slice HO_25.out
                                        subst eo52
                                        go_wp2_with (first | ((with_reducible refine gate_callee (f := 14) rfl ?_); refine goesL_ (some 115) rfl rfl Try.func14 (by kernel_rfl) rfl #[.slice Ao52 x25_3.length co52, .int .i64 0] rfl (by (try simp only [List.map_toArray, List.map_cons, List.map_nil]); first | done | rfl | (simp only [List.length_drop, List.length_take]; rfl)) ?_; (with_reducible refine (chead_Get.calls k3 _ _ x25_3 0 t209 t210 t211 t212 t213 _ ?side1 ?side2 A42.out).mono ?_); (case side1 => repeat (first | exact (Kd.R_reads' HO_25.out).2.2 | (with_reducible refine Kd.C_alloc ?_ _) | (with_reducible refine Kd.C_drewN ?_ _) | (with_reducible refine Kd.C_drew ?_))); (case side2 => exact (Kd.R_reads' HO_25.out).2.1); rintro e w' ⟨rfl, ⟨nd, rfl⟩⟩; refine ⟨_, rfl, ?_⟩) | (go_at_call 12; (with_reducible refine (erratumlaw09_awake.calls  t214 _ A51.out).mono ?_); rintro e w53 ⟨rfl, hb⟩; have n0_ := Aside0.mk (Kd.R_below (by (with_reducible repeat (first | apply Kd.R_alloc | apply Kd.R_drewN | apply Kd.R_drew)); exact HO_25.out) hb); have n1_ := Aside0.mk (below_step (by repeat (first | (with_reducible first | exact HB.out | apply below_alloc | apply pw_below_drewN | apply below_drew1) | exact HB.out)) hb); clear HO_25; clear HB; have HO_25 := n0_; have HB := n1_; clear n0_ n1_; (try clear hb); (try clear hb2); (try clear hk); (try clear hi)))
                                        go_ret
                                        exact ⟨by first | rfl | (simp [errW_none, errW_some] <;> rfl) | (simp only [← hji20, ← hji25, ← hji27]; first | rfl | (simp [errW_none, errW_some] <;> rfl)) | (simp [*, errW_none, errW_some] <;> rfl), by repeat (first | (with_reducible first | exact HB.out | apply below_alloc | apply pw_below_drewN | apply below_drew1) | exact HB.out)⟩
                                      · rw [if_neg c50] at H
                                        have c50b0 : (t211 == x10_5) = false := beq_eq_false_iff_ne.mpr c50
                                        have c50b1 : (t211 != x10_5) = true := bne_iff_ne.mpr c50
                                        obtain rfl := Option.some.inj H
                                        obtain ⟨Ao54, co54, eo54⟩ := Kd.R_slice HO_25.out
                                        subst eo54
                                        go_wp2_with (first | ((with_reducible refine gate_callee (f := 14) rfl ?_); refine goesL_ (some 115) rfl rfl Try.func14 (by kernel_rfl) rfl #[.slice Ao54 x25_3.length co54, .int .i64 0] rfl (by (try simp only [List.map_toArray, List.map_cons, List.map_nil]); first | done | rfl | (simp only [List.length_drop, List.length_take]; rfl)) ?_; (with_reducible refine (chead_Get.calls k3 _ _ x25_3 0 t209 t210 t211 t212 t213 _ ?side1 ?side2 A42.out).mono ?_); (case side1 => repeat (first | exact (Kd.R_reads' HO_25.out).2.2 | (with_reducible refine Kd.C_alloc ?_ _) | (with_reducible refine Kd.C_drewN ?_ _) | (with_reducible refine Kd.C_drew ?_))); (case side2 => exact (Kd.R_reads' HO_25.out).2.1); rintro e w' ⟨rfl, ⟨nd, rfl⟩⟩; refine ⟨_, rfl, ?_⟩))
                                        go_ret
                                        exact ⟨by first | rfl | (simp [errW_none, errW_some] <;> rfl) | (simp only [← hji20, ← hji25, ← hji27]; first | rfl | (simp [errW_none, errW_some] <;> rfl)) | (simp [*, errW_none, errW_some] <;> rfl), by repeat (first | (with_reducible first | exact HB.out | apply below_alloc | apply pw_below_drewN | apply below_drew1) | exact HB.out)⟩
                                    · rw [if_neg c49] at H
                                      have c49b0 : (t213 == 0) = false := beq_eq_false_iff_ne.mpr c49
                                      have c49b1 : (t213 != 0) = true := bne_iff_ne.mpr c49
                                      obtain rfl := Option.some.inj H
                                      obtain ⟨Ao55, co55, eo55⟩ := Kd.R_slice HO_25.out
                                      subst eo55
                                      go_wp2_with (first | ((with_reducible refine gate_callee (f := 14) rfl ?_); refine goesL_ (some 115) rfl rfl Try.func14 (by kernel_rfl) rfl #[.slice Ao55 x25_3.length co55, .int .i64 0] rfl (by (try simp only [List.map_toArray, List.map_cons, List.map_nil]); first | done | rfl | (simp only [List.length_drop, List.length_take]; rfl)) ?_; (with_reducible refine (chead_Get.calls k3 _ _ x25_3 0 t209 t210 t211 t212 t213 _ ?side1 ?side2 A42.out).mono ?_); (case side1 => repeat (first | exact (Kd.R_reads' HO_25.out).2.2 | (with_reducible refine Kd.C_alloc ?_ _) | (with_reducible refine Kd.C_drewN ?_ _) | (with_reducible refine Kd.C_drew ?_))); (case side2 => exact (Kd.R_reads' HO_25.out).2.1); rintro e w' ⟨rfl, ⟨nd, rfl⟩⟩; refine ⟨_, rfl, ?_⟩))
                                      go_ret
                                      exact ⟨by first | rfl | (simp [errW_none, errW_some] <;> rfl) | (simp only [← hji20, ← hji25, ← hji27]; first | rfl | (simp [errW_none, errW_some] <;> rfl)) | (simp [*, errW_none, errW_some] <;> rfl), by repeat (first | (with_reducible first | exact HB.out | apply below_alloc | apply pw_below_drewN | apply below_drew1) | exact HB.out)⟩
                                  · rw [if_neg c48] at H
                                    have c48b0 : (t201 == 2) = false := beq_eq_false_iff_ne.mpr c48
                                    have c48b1 : (t201 != 2) = true := bne_iff_ne.mpr c48
                                    obtain rfl := Option.some.inj H
                                    obtain ⟨Ao56, co56, eo56⟩ := Kd.R_slice HO_25.out
                                    subst eo56
                                    go_wp2_with (first | ((with_reducible refine gate_callee (f := 14) rfl ?_); refine goesL_ (some 115) rfl rfl Try.func14 (by kernel_rfl) rfl #[.slice Ao56 x25_3.length co56, .int .i64 0] rfl (by (try simp only [List.map_toArray, List.map_cons, List.map_nil]); first | done | rfl | (simp only [List.length_drop, List.length_take]; rfl)) ?_; (with_reducible refine (chead_Get.calls k3 _ _ x25_3 0 t209 t210 t211 t212 t213 _ ?side1 ?side2 A42.out).mono ?_); (case side1 => repeat (first | exact (Kd.R_reads' HO_25.out).2.2 | (with_reducible refine Kd.C_alloc ?_ _) | (with_reducible refine Kd.C_drewN ?_ _) | (with_reducible refine Kd.C_drew ?_))); (case side2 => exact (Kd.R_reads' HO_25.out).2.1); rintro e w' ⟨rfl, ⟨nd, rfl⟩⟩; refine ⟨_, rfl, ?_⟩))
                                    go_ret
                                    exact ⟨by first | rfl | (simp [errW_none, errW_some] <;> rfl) | (simp only [← hji20, ← hji25, ← hji27]; first | rfl | (simp [errW_none, errW_some] <;> rfl)) | (simp [*, errW_none, errW_some] <;> rfl), by repeat (first | (with_reducible first | exact HB.out | apply below_alloc | apply pw_below_drewN | apply below_drew1) | exact HB.out)⟩
                                · rw [if_neg c47] at H
                                  have c47b0 : (t192 == 0) = false := beq_eq_false_iff_ne.mpr c47
                                  have c47b1 : (t192 != 0) = true := bne_iff_ne.mpr c47
                                  obtain rfl := Option.some.inj H
                                  obtain ⟨Ao57, co57, eo57⟩ := Kd.R_slice HO_25.out
                                  subst eo57
                                  go_wp2_with (first | ((with_reducible refine gate_callee (f := 14) rfl ?_); refine goesL_ (some 115) rfl rfl Try.func14 (by kernel_rfl) rfl #[.slice Ao57 x25_3.length co57, .int .i64 0] rfl (by (try simp only [List.map_toArray, List.map_cons, List.map_nil]); first | done | rfl | (simp only [List.length_drop, List.length_take]; rfl)) ?_; (with_reducible refine (chead_Get.calls k3 _ _ x25_3 0 t209 t210 t211 t212 t213 _ ?side1 ?side2 A42.out).mono ?_); (case side1 => repeat (first | exact (Kd.R_reads' HO_25.out).2.2 | (with_reducible refine Kd.C_alloc ?_ _) | (with_reducible refine Kd.C_drewN ?_ _) | (with_reducible refine Kd.C_drew ?_))); (case side2 => exact (Kd.R_reads' HO_25.out).2.1); rintro e w' ⟨rfl, ⟨nd, rfl⟩⟩; refine ⟨_, rfl, ?_⟩))
                                  go_ret
                                  exact ⟨by first | rfl | (simp [errW_none, errW_some] <;> rfl) | (simp only [← hji20, ← hji25, ← hji27]; first | rfl | (simp [errW_none, errW_some] <;> rfl)) | (simp [*, errW_none, errW_some] <;> rfl), by repeat (first | (with_reducible first | exact HB.out | apply below_alloc | apply pw_below_drewN | apply below_drew1) | exact HB.out)⟩
                              · rw [if_neg c46] at H
                                have c46b0 : (t191 == (wrap64 (x11_10 + 1))) = false := beq_eq_false_iff_ne.mpr c46
                                have c46b1 : (t191 != (wrap64 (x11_10 + 1))) = true := bne_iff_ne.mpr c46
                                obtain rfl := Option.some.inj H
                                obtain ⟨Ao58, co58, eo58⟩ := Kd.R_slice HO_25.out
                                subst eo58
                                go_wp2_with (first | ((with_reducible refine gate_callee (f := 14) rfl ?_); refine goesL_ (some 115) rfl rfl Try.func14 (by kernel_rfl) rfl #[.slice Ao58 x25_3.length co58, .int .i64 0] rfl (by (try simp only [List.map_toArray, List.map_cons, List.map_nil]); first | done | rfl | (simp only [List.length_drop, List.length_take]; rfl)) ?_; (with_reducible refine (chead_Get.calls k3 _ _ x25_3 0 t209 t210 t211 t212 t213 _ ?side1 ?side2 A42.out).mono ?_); (case side1 => repeat (first | exact (Kd.R_reads' HO_25.out).2.2 | (with_reducible refine Kd.C_alloc ?_ _) | (with_reducible refine Kd.C_drewN ?_ _) | (with_reducible refine Kd.C_drew ?_))); (case side2 => exact (Kd.R_reads' HO_25.out).2.1); rintro e w' ⟨rfl, ⟨nd, rfl⟩⟩; refine ⟨_, rfl, ?_⟩))
                                go_ret
                                exact ⟨by first | rfl | (simp [errW_none, errW_some] <;> rfl) | (simp only [← hji20, ← hji25, ← hji27]; first | rfl | (simp [errW_none, errW_some] <;> rfl)) | (simp [*, errW_none, errW_some] <;> rfl), by repeat (first | (with_reducible first | exact HB.out | apply below_alloc | apply pw_below_drewN | apply below_drew1) | exact HB.out)⟩
                            · rw [if_neg c45] at H
                              have c45b0 : (t190 == x10_5) = false := beq_eq_false_iff_ne.mpr c45
                              have c45b1 : (t190 != x10_5) = true := bne_iff_ne.mpr c45
                              obtain rfl := Option.some.inj H
                              obtain ⟨Ao59, co59, eo59⟩ := Kd.R_slice HO_25.out
                              subst eo59
                              go_wp2_with (first | ((with_reducible refine gate_callee (f := 14) rfl ?_); refine goesL_ (some 115) rfl rfl Try.func14 (by kernel_rfl) rfl #[.slice Ao59 x25_3.length co59, .int .i64 0] rfl (by (try simp only [List.map_toArray, List.map_cons, List.map_nil]); first | done | rfl | (simp only [List.length_drop, List.length_take]; rfl)) ?_; (with_reducible refine (chead_Get.calls k3 _ _ x25_3 0 t209 t210 t211 t212 t213 _ ?side1 ?side2 A42.out).mono ?_); (case side1 => repeat (first | exact (Kd.R_reads' HO_25.out).2.2 | (with_reducible refine Kd.C_alloc ?_ _) | (with_reducible refine Kd.C_drewN ?_ _) | (with_reducible refine Kd.C_drew ?_))); (case side2 => exact (Kd.R_reads' HO_25.out).2.1); rintro e w' ⟨rfl, ⟨nd, rfl⟩⟩; refine ⟨_, rfl, ?_⟩))
                              go_ret
                              exact ⟨by first | rfl | (simp [errW_none, errW_some] <;> rfl) | (simp only [← hji20, ← hji25, ← hji27]; first | rfl | (simp [errW_none, errW_some] <;> rfl)) | (simp [*, errW_none, errW_some] <;> rfl), by repeat (first | (with_reducible first | exact HB.out | apply below_alloc | apply pw_below_drewN | apply below_drew1) | exact HB.out)⟩
                          · rw [if_neg c44] at H
                            have c44b0 : (t188 == t181) = false := beq_eq_false_iff_ne.mpr c44
                            have c44b1 : (t188 != t181) = true := bne_iff_ne.mpr c44
                            obtain rfl := Option.some.inj H
                            obtain ⟨Ao60, co60, eo60⟩ := Kd.R_slice HO_25.out
                            subst eo60
                            go_wp2_with (first | ((with_reducible refine gate_callee (f := 14) rfl ?_); refine goesL_ (some 115) rfl rfl Try.func14 (by kernel_rfl) rfl #[.slice Ao60 x25_3.length co60, .int .i64 0] rfl (by (try simp only [List.map_toArray, List.map_cons, List.map_nil]); first | done | rfl | (simp only [List.length_drop, List.length_take]; rfl)) ?_; (with_reducible refine (chead_Get.calls k3 _ _ x25_3 0 t209 t210 t211 t212 t213 _ ?side1 ?side2 A42.out).mono ?_); (case side1 => repeat (first | exact (Kd.R_reads' HO_25.out).2.2 | (with_reducible refine Kd.C_alloc ?_ _) | (with_reducible refine Kd.C_drewN ?_ _) | (with_reducible refine Kd.C_drew ?_))); (case side2 => exact (Kd.R_reads' HO_25.out).2.1); rintro e w' ⟨rfl, ⟨nd, rfl⟩⟩; refine ⟨_, rfl, ?_⟩))
                            go_ret
                            exact ⟨by first | rfl | (simp [errW_none, errW_some] <;> rfl) | (simp only [← hji20, ← hji25, ← hji27]; first | rfl | (simp [errW_none, errW_some] <;> rfl)) | (simp [*, errW_none, errW_some] <;> rfl), by repeat (first | (with_reducible first | exact HB.out | apply below_alloc | apply pw_below_drewN | apply below_drew1) | exact HB.out)⟩
                        · rw [if_neg c43] at H
                          have c43b0 : (t202 == 3) = false := beq_eq_false_iff_ne.mpr c43
                          have c43b1 : (t202 != 3) = true := bne_iff_ne.mpr c43
                          replace H : (if 0 ≤ (ji25) then (if t188 = t181 then (if t190 = x10_5 then (if t191 = (wrap64 (x11_10 + 1)) then (if t192 = 0 then (if t201 = 2 then (if t213 = 0 then (if (x10_5 < (shl .u64 1 (shl .u64 8 (ji25)))) then (if t211 = x10_5 then ((erratumlaw09_awake.f).bind fun t215 => (some t215)) else (some false)) else ((erratumlaw09_awake.f).bind fun t216 => (some t216))) else (some false)) else (some false)) else (some false)) else (some false)) else (some false)) else (some false)) else (none)) = some r := by first | (rw [hji25] at H; exact H) | (simp only [hji25] at H ⊢; exact H)
                          (try rw [hji25] at A42)
                          by_cases c61 : 0 ≤ (ji25)
                          · rw [if_pos c61] at H
                            have c61b0 := eq_true c61
                            have c61b1 : decide (0 ≤ (ji25)) = true := decide_eq_true c61
                            clear c61
                            obtain ⟨ji62, hji62⟩ : ∃ j_ : Int, (shl .u64 8 (ji25)) = j_ := ⟨_, rfl⟩
                            replace H : (if t188 = t181 then (if t190 = x10_5 then (if t191 = (wrap64 (x11_10 + 1)) then (if t192 = 0 then (if t201 = 2 then (if t213 = 0 then (if (x10_5 < (shl .u64 1 (ji62))) then (if t211 = x10_5 then ((erratumlaw09_awake.f).bind fun t215 => (some t215)) else (some false)) else ((erratumlaw09_awake.f).bind fun t216 => (some t216))) else (some false)) else (some false)) else (some false)) else (some false)) else (some false)) else (some false)) = some r := by first | (rw [hji62] at H; exact H) | (simp only [hji62] at H ⊢; exact H)
                            (try rw [hji62] at A42)
                            have hji62_ : (IntKind.u64.wrap (8 * 2 ^ min (ji25).toNat 64)) = ji62 := hji62
                            have hji62z : (ji25) ≤ 64 → (IntKind.u64.wrap (8 * 2 ^ (ji25).toNat)) = ji62 := shl_small hji62
                            have hji62N0 := eq_true (x_shl_nonneg .u64 rfl 8 (ji25))
                            rw [hji62] at hji62N0
                            have hji62N1 : decide (0 ≤ ji62) = true := decide_eq_true (of_eq_true hji62N0)
                            obtain ⟨ji63, hji63⟩ : ∃ j_ : Int, (shl .u64 1 (ji62)) = j_ := ⟨_, rfl⟩
                            replace H : (if t188 = t181 then (if t190 = x10_5 then (if t191 = (wrap64 (x11_10 + 1)) then (if t192 = 0 then (if t201 = 2 then (if t213 = 0 then (if (x10_5 < (ji63)) then (if t211 = x10_5 then ((erratumlaw09_awake.f).bind fun t215 => (some t215)) else (some false)) else ((erratumlaw09_awake.f).bind fun t216 => (some t216))) else (some false)) else (some false)) else (some false)) else (some false)) else (some false)) else (some false)) = some r := by first | (rw [hji63] at H; exact H) | (simp only [hji63] at H ⊢; exact H)
                            (try rw [hji63] at A42)
                            have hji63_ : (IntKind.u64.wrap (1 * 2 ^ min (ji62).toNat 64)) = ji63 := hji63
                            have hji63z : (ji62) ≤ 64 → (IntKind.u64.wrap (1 * 2 ^ (ji62).toNat)) = ji63 := shl_small hji63
                            have hji63N0 := eq_true (x_shl_nonneg .u64 rfl 1 (ji62))
                            rw [hji63] at hji63N0
                            have hji63N1 : decide (0 ≤ ji63) = true := decide_eq_true (of_eq_true hji63N0)
                            have hji63u : (IntKind.u64.wrap (2 ^ min (ji62).toNat 64)) = ji63 := by have h_ := hji63_; rw [Int.one_mul] at h_; exact h_
                            have hji63v : (ji62) ≤ 64 → (IntKind.u64.wrap (2 ^ (ji62).toNat)) = ji63 := fun hle_ => by have h_ := hji63z hle_; rw [Int.one_mul] at h_; exact h_
                            by_cases c64 : t188 = t181
                            · rw [if_pos c64] at H
                              have c64b0 : (t188 == t181) = true := beq_iff_eq.mpr c64
                              have c64b1 : (t188 != t181) = false := bne_eq_false_iff_eq.mpr c64
                              clear c64
                              by_cases c65 : t190 = x10_5
                              · rw [if_pos c65] at H
                                have c65b0 : (t190 == x10_5) = true := beq_iff_eq.mpr c65
                                have c65b1 : (t190 != x10_5) = false := bne_eq_false_iff_eq.mpr c65
                                clear c65
                                by_cases c66 : t191 = (wrap64 (x11_10 + 1))
                                · rw [if_pos c66] at H
                                  have c66b0 : (t191 == (wrap64 (x11_10 + 1))) = true := beq_iff_eq.mpr c66
                                  have c66b1 : (t191 != (wrap64 (x11_10 + 1))) = false := bne_eq_false_iff_eq.mpr c66
                                  clear c66
                                  by_cases c67 : t192 = 0
                                  · rw [if_pos c67] at H
                                    have c67b0 : (t192 == 0) = true := beq_iff_eq.mpr c67
                                    have c67b1 : (t192 != 0) = false := bne_eq_false_iff_eq.mpr c67
                                    clear c67
                                    by_cases c68 : t201 = 2
                                    · rw [if_pos c68] at H
                                      have c68b0 : (t201 == 2) = true := beq_iff_eq.mpr c68
                                      have c68b1 : (t201 != 2) = false := bne_eq_false_iff_eq.mpr c68
                                      clear c68
                                      by_cases c69 : t213 = 0
                                      · rw [if_pos c69] at H
                                        have c69b0 : (t213 == 0) = true := beq_iff_eq.mpr c69
                                        have c69b1 : (t213 != 0) = false := bne_eq_false_iff_eq.mpr c69
                                        clear c69
                                        by_cases c70 : (x10_5 < (ji63))
                                        · rw [if_pos c70] at H
                                          have c70b0 : decide (x10_5 < (ji63)) = true := decide_eq_true c70
                                          clear c70
                                          by_cases c71 : t211 = x10_5
                                          · rw [if_pos c71] at H
                                            have c71b0 : (t211 == x10_5) = true := beq_iff_eq.mpr c71
                                            have c71b1 : (t211 != x10_5) = false := bne_eq_false_iff_eq.mpr c71
                                            clear c71
                                            replace H := Option.bind_eq_some_iff.mp H
                                            obtain ⟨t215, A720, H⟩ := H
                                            replace H : (some t215) = some r := H
                                            have A72 := Aside0.mk A720
                                            clear A720
                                            obtain rfl := Option.some.inj H
                                            obtain ⟨Ao73, co73, eo73⟩ := Kd.R_slice HO_25.out
                                            subst eo73
                                            go_wp2_with (first | ((with_reducible refine gate_callee (f := 14) rfl ?_); refine goesL_ (some 115) rfl rfl Try.func14 (by kernel_rfl) rfl #[.slice Ao73 x25_3.length co73, .int .i64 0] rfl (by (try simp only [List.map_toArray, List.map_cons, List.map_nil]); first | done | rfl | (simp only [List.length_drop, List.length_take]; rfl)) ?_; (with_reducible refine (chead_Get.calls k3 _ _ x25_3 0 t209 t210 t211 t212 t213 _ ?side1 ?side2 A42.out).mono ?_); (case side1 => repeat (first | exact (Kd.R_reads' HO_25.out).2.2 | (with_reducible refine Kd.C_alloc ?_ _) | (with_reducible refine Kd.C_drewN ?_ _) | (with_reducible refine Kd.C_drew ?_))); (case side2 => exact (Kd.R_reads' HO_25.out).2.1); rintro e w' ⟨rfl, ⟨nd, rfl⟩⟩; refine ⟨_, rfl, ?_⟩) | (go_at_call 12; (with_reducible refine (erratumlaw09_awake.calls  t215 _ A72.out).mono ?_); rintro e w74 ⟨rfl, hb⟩; have n0_ := Aside0.mk (Kd.R_below (by (with_reducible repeat (first | apply Kd.R_alloc | apply Kd.R_drewN | apply Kd.R_drew)); exact HO_25.out) hb); have n1_ := Aside0.mk (below_step (by repeat (first | (with_reducible first | exact HB.out | apply below_alloc | apply pw_below_drewN | apply below_drew1) | exact HB.out)) hb); clear HO_25; clear HB; have HO_25 := n0_; have HB := n1_; clear n0_ n1_; (try clear hb); (try clear hb2); (try clear hk); (try clear hi)))
                                            go_ret
                                            exact ⟨by first | rfl | (simp [errW_none, errW_some] <;> rfl) | (simp only [← hji20, ← hji25, ← hji27, ← hji25, ← hji62, ← hji63]; first | rfl | (simp [errW_none, errW_some] <;> rfl)) | (simp [*, errW_none, errW_some] <;> rfl), by repeat (first | (with_reducible first | exact HB.out | apply below_alloc | apply pw_below_drewN | apply below_drew1) | exact HB.out)⟩
                                          · rw [if_neg c71] at H
                                            have c71b0 : (t211 == x10_5) = false := beq_eq_false_iff_ne.mpr c71
                                            have c71b1 : (t211 != x10_5) = true := bne_iff_ne.mpr c71
                                            obtain rfl := Option.some.inj H
                                            obtain ⟨Ao75, co75, eo75⟩ := Kd.R_slice HO_25.out
                                            subst eo75
                                            go_wp2_with (first | ((with_reducible refine gate_callee (f := 14) rfl ?_); refine goesL_ (some 115) rfl rfl Try.func14 (by kernel_rfl) rfl #[.slice Ao75 x25_3.length co75, .int .i64 0] rfl (by (try simp only [List.map_toArray, List.map_cons, List.map_nil]); first | done | rfl | (simp only [List.length_drop, List.length_take]; rfl)) ?_; (with_reducible refine (chead_Get.calls k3 _ _ x25_3 0 t209 t210 t211 t212 t213 _ ?side1 ?side2 A42.out).mono ?_); (case side1 => repeat (first | exact (Kd.R_reads' HO_25.out).2.2 | (with_reducible refine Kd.C_alloc ?_ _) | (with_reducible refine Kd.C_drewN ?_ _) | (with_reducible refine Kd.C_drew ?_))); (case side2 => exact (Kd.R_reads' HO_25.out).2.1); rintro e w' ⟨rfl, ⟨nd, rfl⟩⟩; refine ⟨_, rfl, ?_⟩))
                                            go_ret
                                            exact ⟨by first | rfl | (simp [errW_none, errW_some] <;> rfl) | (simp only [← hji20, ← hji25, ← hji27, ← hji25, ← hji62, ← hji63]; first | rfl | (simp [errW_none, errW_some] <;> rfl)) | (simp [*, errW_none, errW_some] <;> rfl), by repeat (first | (with_reducible first | exact HB.out | apply below_alloc | apply pw_below_drewN | apply below_drew1) | exact HB.out)⟩
                                        · rw [if_neg c70] at H
                                          have c70b0 : decide (x10_5 < (ji63)) = false := decide_eq_false c70
                                          clear c70
                                          replace H := Option.bind_eq_some_iff.mp H
                                          obtain ⟨t216, A760, H⟩ := H
                                          replace H : (some t216) = some r := H
                                          have A76 := Aside0.mk A760
                                          clear A760
                                          obtain rfl := Option.some.inj H
                                          obtain ⟨Ao77, co77, eo77⟩ := Kd.R_slice HO_25.out
                                          subst eo77
                                          go_wp2_with (first | ((with_reducible refine gate_callee (f := 14) rfl ?_); refine goesL_ (some 115) rfl rfl Try.func14 (by kernel_rfl) rfl #[.slice Ao77 x25_3.length co77, .int .i64 0] rfl (by (try simp only [List.map_toArray, List.map_cons, List.map_nil]); first | done | rfl | (simp only [List.length_drop, List.length_take]; rfl)) ?_; (with_reducible refine (chead_Get.calls k3 _ _ x25_3 0 t209 t210 t211 t212 t213 _ ?side1 ?side2 A42.out).mono ?_); (case side1 => repeat (first | exact (Kd.R_reads' HO_25.out).2.2 | (with_reducible refine Kd.C_alloc ?_ _) | (with_reducible refine Kd.C_drewN ?_ _) | (with_reducible refine Kd.C_drew ?_))); (case side2 => exact (Kd.R_reads' HO_25.out).2.1); rintro e w' ⟨rfl, ⟨nd, rfl⟩⟩; refine ⟨_, rfl, ?_⟩) | (go_at_call 12; (with_reducible refine (erratumlaw09_awake.calls  t216 _ A76.out).mono ?_); rintro e w78 ⟨rfl, hb⟩; have n0_ := Aside0.mk (Kd.R_below (by (with_reducible repeat (first | apply Kd.R_alloc | apply Kd.R_drewN | apply Kd.R_drew)); exact HO_25.out) hb); have n1_ := Aside0.mk (below_step (by repeat (first | (with_reducible first | exact HB.out | apply below_alloc | apply pw_below_drewN | apply below_drew1) | exact HB.out)) hb); clear HO_25; clear HB; have HO_25 := n0_; have HB := n1_; clear n0_ n1_; (try clear hb); (try clear hb2); (try clear hk); (try clear hi)))
                                          go_ret
                                          exact ⟨by first | rfl | (simp [errW_none, errW_some] <;> rfl) | (simp only [← hji20, ← hji25, ← hji27, ← hji25, ← hji62, ← hji63]; first | rfl | (simp [errW_none, errW_some] <;> rfl)) | (simp [*, errW_none, errW_some] <;> rfl), by repeat (first | (with_reducible first | exact HB.out | apply below_alloc | apply pw_below_drewN | apply below_drew1) | exact HB.out)⟩
                                      · rw [if_neg c69] at H
                                        have c69b0 : (t213 == 0) = false := beq_eq_false_iff_ne.mpr c69
                                        have c69b1 : (t213 != 0) = true := bne_iff_ne.mpr c69
                                        obtain rfl := Option.some.inj H
                                        obtain ⟨Ao79, co79, eo79⟩ := Kd.R_slice HO_25.out
                                        subst eo79
                                        go_wp2_with (first | ((with_reducible refine gate_callee (f := 14) rfl ?_); refine goesL_ (some 115) rfl rfl Try.func14 (by kernel_rfl) rfl #[.slice Ao79 x25_3.length co79, .int .i64 0] rfl (by (try simp only [List.map_toArray, List.map_cons, List.map_nil]); first | done | rfl | (simp only [List.length_drop, List.length_take]; rfl)) ?_; (with_reducible refine (chead_Get.calls k3 _ _ x25_3 0 t209 t210 t211 t212 t213 _ ?side1 ?side2 A42.out).mono ?_); (case side1 => repeat (first | exact (Kd.R_reads' HO_25.out).2.2 | (with_reducible refine Kd.C_alloc ?_ _) | (with_reducible refine Kd.C_drewN ?_ _) | (with_reducible refine Kd.C_drew ?_))); (case side2 => exact (Kd.R_reads' HO_25.out).2.1); rintro e w' ⟨rfl, ⟨nd, rfl⟩⟩; refine ⟨_, rfl, ?_⟩))
                                        go_ret
                                        exact ⟨by first | rfl | (simp [errW_none, errW_some] <;> rfl) | (simp only [← hji20, ← hji25, ← hji27, ← hji25, ← hji62, ← hji63]; first | rfl | (simp [errW_none, errW_some] <;> rfl)) | (simp [*, errW_none, errW_some] <;> rfl), by repeat (first | (with_reducible first | exact HB.out | apply below_alloc | apply pw_below_drewN | apply below_drew1) | exact HB.out)⟩
                                    · rw [if_neg c68] at H
                                      have c68b0 : (t201 == 2) = false := beq_eq_false_iff_ne.mpr c68
                                      have c68b1 : (t201 != 2) = true := bne_iff_ne.mpr c68
                                      obtain rfl := Option.some.inj H
                                      obtain ⟨Ao80, co80, eo80⟩ := Kd.R_slice HO_25.out
                                      subst eo80
                                      go_wp2_with (first | ((with_reducible refine gate_callee (f := 14) rfl ?_); refine goesL_ (some 115) rfl rfl Try.func14 (by kernel_rfl) rfl #[.slice Ao80 x25_3.length co80, .int .i64 0] rfl (by (try simp only [List.map_toArray, List.map_cons, List.map_nil]); first | done | rfl | (simp only [List.length_drop, List.length_take]; rfl)) ?_; (with_reducible refine (chead_Get.calls k3 _ _ x25_3 0 t209 t210 t211 t212 t213 _ ?side1 ?side2 A42.out).mono ?_); (case side1 => repeat (first | exact (Kd.R_reads' HO_25.out).2.2 | (with_reducible refine Kd.C_alloc ?_ _) | (with_reducible refine Kd.C_drewN ?_ _) | (with_reducible refine Kd.C_drew ?_))); (case side2 => exact (Kd.R_reads' HO_25.out).2.1); rintro e w' ⟨rfl, ⟨nd, rfl⟩⟩; refine ⟨_, rfl, ?_⟩))
                                      go_ret
                                      exact ⟨by first | rfl | (simp [errW_none, errW_some] <;> rfl) | (simp only [← hji20, ← hji25, ← hji27, ← hji25, ← hji62, ← hji63]; first | rfl | (simp [errW_none, errW_some] <;> rfl)) | (simp [*, errW_none, errW_some] <;> rfl), by repeat (first | (with_reducible first | exact HB.out | apply below_alloc | apply pw_below_drewN | apply below_drew1) | exact HB.out)⟩
                                  · rw [if_neg c67] at H
                                    have c67b0 : (t192 == 0) = false := beq_eq_false_iff_ne.mpr c67
                                    have c67b1 : (t192 != 0) = true := bne_iff_ne.mpr c67
                                    obtain rfl := Option.some.inj H
                                    obtain ⟨Ao81, co81, eo81⟩ := Kd.R_slice HO_25.out
                                    subst eo81
                                    go_wp2_with (first | ((with_reducible refine gate_callee (f := 14) rfl ?_); refine goesL_ (some 115) rfl rfl Try.func14 (by kernel_rfl) rfl #[.slice Ao81 x25_3.length co81, .int .i64 0] rfl (by (try simp only [List.map_toArray, List.map_cons, List.map_nil]); first | done | rfl | (simp only [List.length_drop, List.length_take]; rfl)) ?_; (with_reducible refine (chead_Get.calls k3 _ _ x25_3 0 t209 t210 t211 t212 t213 _ ?side1 ?side2 A42.out).mono ?_); (case side1 => repeat (first | exact (Kd.R_reads' HO_25.out).2.2 | (with_reducible refine Kd.C_alloc ?_ _) | (with_reducible refine Kd.C_drewN ?_ _) | (with_reducible refine Kd.C_drew ?_))); (case side2 => exact (Kd.R_reads' HO_25.out).2.1); rintro e w' ⟨rfl, ⟨nd, rfl⟩⟩; refine ⟨_, rfl, ?_⟩))
                                    go_ret
                                    exact ⟨by first | rfl | (simp [errW_none, errW_some] <;> rfl) | (simp only [← hji20, ← hji25, ← hji27, ← hji25, ← hji62, ← hji63]; first | rfl | (simp [errW_none, errW_some] <;> rfl)) | (simp [*, errW_none, errW_some] <;> rfl), by repeat (first | (with_reducible first | exact HB.out | apply below_alloc | apply pw_below_drewN | apply below_drew1) | exact HB.out)⟩
                                · rw [if_neg c66] at H
                                  have c66b0 : (t191 == (wrap64 (x11_10 + 1))) = false := beq_eq_false_iff_ne.mpr c66
                                  have c66b1 : (t191 != (wrap64 (x11_10 + 1))) = true := bne_iff_ne.mpr c66
                                  obtain rfl := Option.some.inj H
                                  obtain ⟨Ao82, co82, eo82⟩ := Kd.R_slice HO_25.out
                                  subst eo82
                                  go_wp2_with (first | ((with_reducible refine gate_callee (f := 14) rfl ?_); refine goesL_ (some 115) rfl rfl Try.func14 (by kernel_rfl) rfl #[.slice Ao82 x25_3.length co82, .int .i64 0] rfl (by (try simp only [List.map_toArray, List.map_cons, List.map_nil]); first | done | rfl | (simp only [List.length_drop, List.length_take]; rfl)) ?_; (with_reducible refine (chead_Get.calls k3 _ _ x25_3 0 t209 t210 t211 t212 t213 _ ?side1 ?side2 A42.out).mono ?_); (case side1 => repeat (first | exact (Kd.R_reads' HO_25.out).2.2 | (with_reducible refine Kd.C_alloc ?_ _) | (with_reducible refine Kd.C_drewN ?_ _) | (with_reducible refine Kd.C_drew ?_))); (case side2 => exact (Kd.R_reads' HO_25.out).2.1); rintro e w' ⟨rfl, ⟨nd, rfl⟩⟩; refine ⟨_, rfl, ?_⟩))
                                  go_ret
                                  exact ⟨by first | rfl | (simp [errW_none, errW_some] <;> rfl) | (simp only [← hji20, ← hji25, ← hji27, ← hji25, ← hji62, ← hji63]; first | rfl | (simp [errW_none, errW_some] <;> rfl)) | (simp [*, errW_none, errW_some] <;> rfl), by repeat (first | (with_reducible first | exact HB.out | apply below_alloc | apply pw_below_drewN | apply below_drew1) | exact HB.out)⟩
                              · rw [if_neg c65] at H
                                have c65b0 : (t190 == x10_5) = false := beq_eq_false_iff_ne.mpr c65
                                have c65b1 : (t190 != x10_5) = true := bne_iff_ne.mpr c65
                                obtain rfl := Option.some.inj H
                                obtain ⟨Ao83, co83, eo83⟩ := Kd.R_slice HO_25.out
                                subst eo83
                                go_wp2_with (first | ((with_reducible refine gate_callee (f := 14) rfl ?_); refine goesL_ (some 115) rfl rfl Try.func14 (by kernel_rfl) rfl #[.slice Ao83 x25_3.length co83, .int .i64 0] rfl (by (try simp only [List.map_toArray, List.map_cons, List.map_nil]); first | done | rfl | (simp only [List.length_drop, List.length_take]; rfl)) ?_; (with_reducible refine (chead_Get.calls k3 _ _ x25_3 0 t209 t210 t211 t212 t213 _ ?side1 ?side2 A42.out).mono ?_); (case side1 => repeat (first | exact (Kd.R_reads' HO_25.out).2.2 | (with_reducible refine Kd.C_alloc ?_ _) | (with_reducible refine Kd.C_drewN ?_ _) | (with_reducible refine Kd.C_drew ?_))); (case side2 => exact (Kd.R_reads' HO_25.out).2.1); rintro e w' ⟨rfl, ⟨nd, rfl⟩⟩; refine ⟨_, rfl, ?_⟩))
                                go_ret
                                exact ⟨by first | rfl | (simp [errW_none, errW_some] <;> rfl) | (simp only [← hji20, ← hji25, ← hji27, ← hji25, ← hji62, ← hji63]; first | rfl | (simp [errW_none, errW_some] <;> rfl)) | (simp [*, errW_none, errW_some] <;> rfl), by repeat (first | (with_reducible first | exact HB.out | apply below_alloc | apply pw_below_drewN | apply below_drew1) | exact HB.out)⟩
                            · rw [if_neg c64] at H
                              have c64b0 : (t188 == t181) = false := beq_eq_false_iff_ne.mpr c64
                              have c64b1 : (t188 != t181) = true := bne_iff_ne.mpr c64
                              obtain rfl := Option.some.inj H
                              obtain ⟨Ao84, co84, eo84⟩ := Kd.R_slice HO_25.out
                              subst eo84
                              go_wp2_with (first | ((with_reducible refine gate_callee (f := 14) rfl ?_); refine goesL_ (some 115) rfl rfl Try.func14 (by kernel_rfl) rfl #[.slice Ao84 x25_3.length co84, .int .i64 0] rfl (by (try simp only [List.map_toArray, List.map_cons, List.map_nil]); first | done | rfl | (simp only [List.length_drop, List.length_take]; rfl)) ?_; (with_reducible refine (chead_Get.calls k3 _ _ x25_3 0 t209 t210 t211 t212 t213 _ ?side1 ?side2 A42.out).mono ?_); (case side1 => repeat (first | exact (Kd.R_reads' HO_25.out).2.2 | (with_reducible refine Kd.C_alloc ?_ _) | (with_reducible refine Kd.C_drewN ?_ _) | (with_reducible refine Kd.C_drew ?_))); (case side2 => exact (Kd.R_reads' HO_25.out).2.1); rintro e w' ⟨rfl, ⟨nd, rfl⟩⟩; refine ⟨_, rfl, ?_⟩))
                              go_ret
                              exact ⟨by first | rfl | (simp [errW_none, errW_some] <;> rfl) | (simp only [← hji20, ← hji25, ← hji27, ← hji25, ← hji62, ← hji63]; first | rfl | (simp [errW_none, errW_some] <;> rfl)) | (simp [*, errW_none, errW_some] <;> rfl), by repeat (first | (with_reducible first | exact HB.out | apply below_alloc | apply pw_below_drewN | apply below_drew1) | exact HB.out)⟩
                          · rw [if_neg c61] at H
                            exact absurd H (by simp)
                · rw [if_neg c26] at H
                  exact absurd H (by simp)
              · rw [if_neg c22] at H
                exact absurd H (by simp)
            · rw [if_neg c21] at H
              exact absurd H (by simp)
          · rw [if_neg c18] at H
            have c18b0 : ((t185.length : Int) == (wrap64 (x11_10 + 1))) = false := beq_eq_false_iff_ne.mpr c18
            have c18b1 : ((t185.length : Int) != (wrap64 (x11_10 + 1))) = true := bne_iff_ne.mpr c18
            obtain rfl := Option.some.inj H
            go_wp2_with (first | ((with_reducible refine gate_callee (f := 10) rfl ?_); refine goesL_ (some 57) rfl rfl Try.func10 (by kernel_rfl) rfl #[.int .i64 a0, .int .i64 8] rfl (by (try simp only [List.map_toArray, List.map_cons, List.map_nil]); first | done | rfl | (simp only [List.length_drop, List.length_take]; rfl)) ?_; (with_reducible refine (erratumlaw00_Place.calls a0 8 t181 _ A16.out).mono ?_); rintro e w' ⟨rfl, ⟨nd, rfl⟩⟩; refine ⟨_, rfl, ?_⟩) | ((with_reducible refine gate_dst (N := 58) rfl ?_); refine Kd.R_lit (Kd.int .u8) _ 5 ?hg (N := 58) ?hd (xs := ([1] : List Int)) (inner := [.int .u8 1]) (ok := fun _ => True) (okp := fun _ => True) ?hr ?hp (fun _ hk => hk) trivial (Below.refl _ _) (Nat.le_refl _) (by simp) ?_; (case hd => rfl); (case hg => rfl); (case hr => first | (go_simp; done) | (go_simp; rfl)); (case hp => exact (Reps.one (show Kd.M (Kd.int .u8) _ _ _ 1 [.int .u8 1] from rfl) (Reps.none _ _))); intro v183 w85 ho86 hb hg_ hnew_; clear hg_ hnew_; (first | rw [← Ny182.out] at ho86 | (simp only [Int.reduceToNat] at ho86; rw [← Ny182.out] at ho86)); have n0_ := Aside0.mk (Kd.R_lower ho86 (below_size (by repeat (first | (with_reducible first | exact HB.out | apply below_alloc | apply pw_below_drewN | apply below_drew1) | exact HB.out)))); have n1_ := Aside0.mk (below_step (by repeat (first | (with_reducible first | exact HB.out | apply below_alloc | apply pw_below_drewN | apply below_drew1) | exact HB.out)) hb); clear HB; have HO184 := n0_; have HB := n1_; clear n0_ n1_; clear hb ho86; obtain ⟨Ao87, co87, eo87⟩ := Kd.R_slice HO184.out; subst eo87) | ((with_reducible refine gate_callee (f := 11) rfl ?_); refine goesL_ (some 61) rfl rfl Try.func11 (by kernel_rfl) rfl #[.slice Ao87 y182.length co87, .int .i64 t181, .int .u64 x10_5] rfl (by (try simp only [List.map_toArray, List.map_cons, List.map_nil]); first | done | rfl | (simp only [List.length_drop, List.length_take]; rfl)) ?_; (with_reducible refine (chead_Put.calls _ _ y182 t181 x10_5 t185 _ ?side1 ?side2 A17.out).mono ?_); (case side1 => repeat (first | exact (Kd.R_reads' HO184.out).2.2 | (with_reducible refine Kd.C_alloc ?_ _) | (with_reducible refine Kd.C_drewN ?_ _) | (with_reducible refine Kd.C_drew ?_))); (case side2 => exact (Kd.R_reads' HO184.out).2.1); rintro e w88 ⟨v186, rfl, ho0, hb⟩; refine ⟨_, rfl, ?_⟩; have n0_ := Aside0.mk (Kd.R_elder' (by (with_reducible repeat (first | apply Kd.R_alloc | apply Kd.R_drewN | apply Kd.R_drew)); exact HO184.out) (Kd.R_base ho0) hb); have n1_ := Aside0.mk (Kd.R_lower (Kd.R_new' ho0 (Kd.R_lt (by (with_reducible repeat (first | apply Kd.R_alloc | apply Kd.R_drewN | apply Kd.R_drew)); exact HO184.out))) (below_size (by repeat (first | (with_reducible first | exact HB.out | apply below_alloc | apply pw_below_drewN | apply below_drew1) | exact HB.out)))); have n2_ := Aside0.mk (below_step (by repeat (first | (with_reducible first | exact HB.out | apply below_alloc | apply pw_below_drewN | apply below_drew1) | exact HB.out)) hb); clear HO184; clear HB; have HO184 := n0_; have HO187 := n1_; have HB := n2_; clear n0_ n1_ n2_; (try clear hb); (try clear hb2); (try clear hk); (try clear hi); (try clear ho0); obtain ⟨Ao89, co89, eo89⟩ := Kd.R_slice HO187.out; subst eo89))
            go_ret
            exact ⟨by first | rfl | (simp [errW_none, errW_some] <;> rfl) | (simp [*, errW_none, errW_some] <;> rfl), by repeat (first | (with_reducible first | exact HB.out | apply below_alloc | apply pw_below_drewN | apply below_drew1) | exact HB.out)⟩

/-- THE ONE PURE STATEMENT of erratumlaw09_CheadBack: yours. -/
def erratumlaw09_CheadBack.Pure : Prop := ∀ (a0 : Int) (a1 : Int) (a2 : Int) (a3 : Int), (Lit.int .i64 a0).wf = true → (Lit.int .u64 a1).wf = true → (Lit.int .i64 a2).wf = true → (Lit.int .i64 a3).wf = true → ∃ k, erratumlaw09_CheadBack.f k a0 a1 a2 a3 = some true
theorem erratumlaw09_CheadBack.walk (P : erratumlaw09_CheadBack.Pure) (a0 : Int) (a1 : Int) (a2 : Int) (a3 : Int) (w : World) (w0 : (Lit.int .i64 a0).wf = true) (w1 : (Lit.int .u64 a1).wf = true) (w2 : (Lit.int .i64 a2).wf = true) (w3 : (Lit.int .i64 a3).wf = true) :
    Calls Try.prog 5 #[.int .i64 a0, .int .u64 a1, .int .i64 a2, .int .i64 a3] w fun e w' => e = .returned (.bool true) ∧ Below w.heap.size w w' := by
  obtain ⟨k, h⟩ := P a0 a1 a2 a3 w0 w1 w2 w3
  refine (erratumlaw09_CheadBack.calls k a0 a1 a2 a3 true w h).mono ?_
  rintro e w' ⟨rfl, hd⟩
  exact ⟨rfl, hd⟩

end Go.Proofs.Ytpamgedmgjfjjaa.M
