/-
Lemmas for OrderObjects, for every input they speak of: XObjects.
-/
import Derived.Test.YtpamgedmgjfjjaaKOrderObjects03
import Derived.Test.YtpamgedmgjfjjaaKOrderObjects07
import Derived.Test.YtpamgedmgjfjjaaKOrderObjects09
import Derived.Test.YtpamgedmgjfjjaaKOrderObjects11
import Derived.Test.YtpamgedmgjfjjaaKOrderObjects08
import Derived.Laws.Cover1
import Derived.Test.YtpamgedmgjfjjaaKOrderObjects14
import Derived.Test.YtpamgedmgjfjjaaKOrderObjects12
namespace Go.Proofs.Ytpamgedmgjfjjaa.M
open Go.RowKit Go.Proofs.YtpamgedmgjfjjaaW.PrintWords Go.Proofs.YtpamgedmgjfjjaaW.PrintLast Go.Proofs.YtpamgedmgjfjjaaW.PrintMore
attribute [local go_sem] max2_int min2_int max_two min_two max_three min_three max_four min_four
set_option linter.unusedVariables false
set_option linter.unusedSimpArgs false
def erratumlaw06_OrderObjects.T10 : Bool × List (List Nat × List Nat) := (true, [([], []), ([], []), ([], []), ([1, 2], [1, 2]), ([0, 3], [0, 3]), ([], []), ([], []), ([5, 6], [5, 6]), ([4, 7, 4], [4, 7]), ([8, 8, 0, 1, 2, 3, 4, 5, 6, 7, 8], [0, 8])])
def erratumlaw06_OrderObjects.B10 : List Nat := [0, 0, 0, 6, 15, 0, 0, 96, 255, 511]
theorem erratumlaw06_OrderObjects.tab10 : rtab .any (opsOf Try.f9 10) = erratumlaw06_OrderObjects.T10 := by kernel_rfl
theorem erratumlaw06_OrderObjects.bits10 : waitsOk erratumlaw06_OrderObjects.T10.2 erratumlaw06_OrderObjects.B10 = true := by kernel_rfl
def erratumlaw06_OrderObjects.T11 : Bool × List (List Nat × List Nat) := (true, [([], []), ([], []), ([], []), ([1, 2], [1, 2]), ([0, 3], [0, 3]), ([], []), ([], []), ([5, 6], [5, 6]), ([4, 7, 4], [4, 7]), ([8, 8, 0, 1, 2, 3, 4, 5, 6, 7, 8], [0, 8])])
def erratumlaw06_OrderObjects.B11 : List Nat := [0, 0, 0, 6, 15, 0, 0, 96, 255, 511]
theorem erratumlaw06_OrderObjects.tab11 : rtab .any (opsOf Try.f9 11) = erratumlaw06_OrderObjects.T11 := by kernel_rfl
theorem erratumlaw06_OrderObjects.bits11 : waitsOk erratumlaw06_OrderObjects.T11.2 erratumlaw06_OrderObjects.B11 = true := by kernel_rfl
def erratumlaw06_OrderObjects.T20 : Bool × List (List Nat × List Nat) := (true, [([], []), ([0], [0]), ([1], [1]), ([2], [2]), ([3, 2], [2, 3]), ([2], [2]), ([4, 5, 2], [2, 4, 5]), ([6, 2], [2, 6]), ([2], [2]), ([8, 2], [2, 8]), ([2], [2]), ([10, 2], [2, 10]), ([9, 11, 2], [2, 9, 11]), ([12, 2], [2, 12]), ([7, 13, 2], [2, 7, 13]), ([2, 14], [2, 14]), ([15, 2], [15]), ([16], [16]), ([16], [16]), ([18, 16], [16, 18]), ([19, 16], [16, 19]), ([17, 20, 16], [16, 17, 20]), ([16, 21], [16, 21]), ([22, 16], [22]), ([23], [23]), ([24, 23], [23, 24]), ([23], [23]), ([25, 26, 23], [23, 25, 26]), ([27, 23], [23, 27]), ([28, 23], [23, 28]), ([23], [23]), ([30, 23], [23, 30]), ([23], [23]), ([31, 32, 23], [23, 31, 32]), ([33, 23], [23, 33]), ([29, 34, 23], [23, 29, 34]), ([23, 35], [23, 35])])
def erratumlaw06_OrderObjects.B20 : List Nat := [0, 1, 3, 7, 15, 7, 63, 127, 7, 263, 7, 1031, 3847, 7943, 16383, 32767, 65535, 131071, 131071, 393215, 917503, 2097151, 4194303, 8388607, 16777215, 33554431, 16777215, 134217727, 268435455, 536870911, 16777215, 1090519039, 16777215, 7532969983, 16122904575, 34359738367, 68719476735]
theorem erratumlaw06_OrderObjects.tab20 : rtab .any (opsOf Try.f9 20) = erratumlaw06_OrderObjects.T20 := by kernel_rfl
theorem erratumlaw06_OrderObjects.bits20 : waitsOk erratumlaw06_OrderObjects.T20.2 erratumlaw06_OrderObjects.B20 = true := by kernel_rfl
set_option maxHeartbeats 40000000 in
set_option maxRecDepth 100000 in
theorem erratumlaw06_OrderObjects.calls (k : Nat) (A0 : Option Addr) (c0 : Nat) (l0 : List ByteArray) (a1 : Int) (w : World) (hr0 : Kd.C Kd.string w A0 l0.length l0) (hc0 : l0.length ≤ c0) (h : erratumlaw06_OrderObjects.f k l0 a1 = some true) :
  Calls Try.prog 9 #[.slice A0 l0.length c0, .int .i64 a1] w fun e w' => e = .returned (.bool true) ∧ Below w.heap.size w w' := by
 have hu50 := Try.underlying50
 have HR0 := Aside0.mk hr0
 have HC0 := Aside0.mk hc0
 clear hr0 hc0
 have HB := Aside0.mk (Below.refl w.heap.size w)
 have H : ((erratumlaw06_few.f k l0).bind fun t530 => (if t530 = true then ((erratumlaw00_Place.f a1 (wrap64 ((l0.length : Int) + 1))).bind fun t532 => (erratumlaw06_OrderObjects.l0 k l0 ([] : List (S50)) t532 0)) else ((erratumlaw06_awake.f k).bind fun t531 => (some t531)))) = some true := h
 clear h
 replace H := Option.bind_eq_some_iff.mp H
 obtain ⟨t530, A30, H⟩ := H
 replace H : (if t530 = true then ((erratumlaw00_Place.f a1 (wrap64 ((l0.length : Int) + 1))).bind fun t532 => (erratumlaw06_OrderObjects.l0 k l0 ([] : List (S50)) t532 0)) else ((erratumlaw06_awake.f k).bind fun t531 => (some t531))) = some true := H
 have A3 := Aside0.mk A30
 clear A30
 by_cases c4 : t530 = true
 ·subst c4
  have H1 : ((erratumlaw00_Place.f a1 (wrap64 ((l0.length : Int) + 1))).bind fun t532 => (erratumlaw06_OrderObjects.l0 k l0 ([] : List (S50)) t532 0)) = some true := by rw [if_pos rfl] at H; exact H
  clear H
  have H := H1
  clear H1
  replace H := Option.bind_eq_some_iff.mp H
  obtain ⟨t532, A50, H⟩ := H
  replace H : (erratumlaw06_OrderObjects.l0 k l0 ([] : List (S50)) t532 0) = some true := H
  have A5 := Aside0.mk A50
  clear A50
  have H' := Aside0.mk H
  clear H
  go_enter Try.func9, Try.ntmps9
  go_wp2_with (first | ((with_reducible refine gate_callee (f := 16) rfl ?_); refine goesL_ (some 20) rfl rfl Try.func16 (by kernel_rfl) rfl #[.slice A0 l0.length c0] rfl (by (try simp only [List.map_toArray, List.map_cons, List.map_nil]); first | done | rfl | (simp only [List.length_drop, List.length_take]; rfl)) ?_; (with_reducible refine (erratumlaw06_few.calls k _ _ l0 true _ ?side1 ?side2 A3.out).mono ?_); (case side1 => repeat (first | exact HR0.out | (with_reducible refine Kd.C_alloc ?_ _) | (with_reducible refine Kd.C_drewN ?_ _) | (with_reducible refine Kd.C_drew ?_))); (case side2 => exact HC0.out); rintro e w' ⟨rfl, ⟨nd, rfl⟩⟩; refine ⟨_, rfl, ?_⟩) | ((with_reducible refine gate_callee (f := 10) rfl ?_); refine goesL_ (some 27) rfl rfl Try.func10 (by kernel_rfl) rfl #[.int .i64 a1, .int .i64 (wrap64 ((l0.length : Int) + 1))] rfl (by (try simp only [List.map_toArray, List.map_cons, List.map_nil]); first | done | rfl | (simp only [List.length_drop, List.length_take]; rfl)) ?_; (with_reducible refine (erratumlaw00_Place.calls a1 (wrap64 ((l0.length : Int) + 1)) t532 _ A5.out).mono ?_); rintro e w' ⟨rfl, ⟨nd, rfl⟩⟩; refine ⟨_, rfl, ?_⟩))
  go_loopg [5, 9] k (fun kq v5 v9 w' => ∃ (x5_1 : List (S50)) (x9_1 : Int), v9 = .int .i64 x9_1 ∧ Aside0 (erratumlaw06_OrderObjects.l0 kq l0 x5_1 t532 x9_1 = some true) ∧ Aside0 (kq ≤ k) ∧ Aside0 (Kd.N k50 50 w' w.heap.size (fun _ => True) v5 x5_1) ∧ Aside0 (Below w.heap.size w w'))
  case atStart => exact ⟨(([] : List (S50))), (0), (by first | rfl | (simp; done) | (simp [*]; done)), H', ⟨Nat.le_refl _⟩, ⟨by first | exact Kd.R_nil _ _ _ _ _ | exact Kd.N_nil _ _ _ _ _ | exact Kd.V_nil _ _ _ _ _ | exact Kd.Q_nil _ _ _ _ _ | exact Kd.S_nil _ _ _ _ _⟩, ⟨by repeat (first | (with_reducible first | exact HB.out | apply below_alloc | apply pw_below_drewN | apply below_drew1) | exact HB.out)⟩⟩
  case round =>
   clear H'
   try clear c1
   try clear p2
   try clear c4
   obtain ⟨x5_1, x9_1, rfl, HA, HK1, HO_5, HB⟩ := hrel
   cases gk with
   | zero => exact absurd HA.out (by simp [erratumlaw06_OrderObjects.l0])
   | succ k1 =>
    have H := HA.out
    clear HA
    simp only [erratumlaw06_OrderObjects.l0] at H
    by_cases c6 : x9_1 < (l0.length : Int)
    ·rw [if_pos c6] at H
     have c6b0 : decide (x9_1 < (l0.length : Int)) = true := decide_eq_true c6
     clear c6
     by_cases c7 : 0 ≤ x9_1
     ·rw [if_pos c7] at H
      have c7b0 : decide (0 ≤ x9_1) = true := decide_eq_true c7
      clear c7
      by_cases c8 : x5_1.length < 1172812402961
      ·rw [if_pos c8] at H
       have LMc8 := Aside0.mk c8
       clear c8
       obtain ⟨y534, hy534⟩ : ∃ y_ : List (S50), y_ = (x5_1 ++ [(⟨4, false, (⟨false, ([] : List Int), 0⟩ : S48), rdOf ByteArray.empty l0 x9_1, ([] : List ByteArray), ([] : List (S50))⟩ : S50)]) := ⟨_, rfl⟩
       replace H : (erratumlaw06_OrderObjects.l0 k1 l0 y534 t532 (wrap64 (x9_1 + 1))) = some true := by first | (rw [hy534]; with_reducible exact H) | (have H2_ := (Option.bind_some _ _).symm.trans H; rw [hy534]; with_reducible exact H2_) | (have H2_ := (Option.bind_some _ _).symm.trans H; with_reducible exact H2_) | with_reducible exact H | (rw [hy534]; exact H) | exact H
       have Ny534 := Aside0.mk hy534
       clear hy534
       have H' := Aside0.mk H
       clear H
       have p533 : 0 ≤ (x9_1 : Int) := of_decide_eq_true (by first | (with_reducible assumption) | assumption)
       have q533 : x9_1 < (l0.length : Int) := of_decide_eq_true (by first | (with_reducible assumption) | assumption)
       obtain ⟨ad533, e533, hx533_0⟩ := Kd.at_string HR0.out x9_1 p533 q533
       cases e533
       replace hx533_0 := (HB.out.cell (World.block_lt_of_cell? w _ hx533_0)).trans hx533_0
       replace p533 := eq_true p533
       replace q533 := eq_true q533
       go_wp2_with (first | ((with_reducible refine gate_builtin (b := .append) (xs := #[.tmp 34, .tmp 40]) rfl ?_); (try (refine gate_guard (by rfl) ?_; dsimp only)); at_builtin; refine Kd.N_append k50 (w0 := w) w.heap.size rfl (.tmp 34) (.tmp 40) 44 50 (.agg #[(.int .i64 0), (.bool false), (.bool false), (.slice none 0 0), (.int .i64 0), (.string ⟨#[]⟩), (.slice none 0 0), (.slice none 0 0)]) 120 rfl Try.underlying44 info50 rfl (by decide) (by omega) u5 x5_1 (⟨4, false, (⟨false, ([] : List Int), 0⟩ : S48), rdOf ByteArray.empty l0 x9_1, ([] : List ByteArray), ([] : List (S50))⟩ : S50) [.int .i64 4, .bool false, .bool false, .slice none 0 0, .int .i64 0, .string (rdOf ByteArray.empty l0 x9_1), .slice none 0 0, .slice none 0 0] (fun _ => True) (fun k_ => ((fun _ => True)) k_ ∧ some k_ ≠ (u5 : Value).ownBlock) rfl rfl ?aP (fun _ hk => hk) ?aF ?aO ?aB ?aS ?aL ?_; (case aP => exact (k50_mkF _ _ (⟨4, false, (⟨false, ([] : List Int), 0⟩ : S48), rdOf ByteArray.empty l0 x9_1, ([] : List ByteArray), ([] : List (S50))⟩ : S50) (Nat.le_refl _) (Kd.F_nil _ _ _) (Nat.le_refl _) (Kd.F_nil _ _ _) (Nat.le_refl _) (Kd.F_nil _ _ _))); (case aB => exact (by repeat (first | (with_reducible first | exact HB.out | apply below_alloc | apply pw_below_drewN | apply below_drew1) | exact HB.out))); (case aF => exact (fun _ _ => trivial)); (case aO => exact (by (with_reducible repeat (first | apply Kd.N_alloc | apply Kd.N_drewN | apply Kd.N_drew)); exact HO_5.out)); (case aS => exact (below_size (by repeat (first | (with_reducible first | exact HB.out | apply below_alloc | apply pw_below_drewN | apply below_drew1) | exact HB.out)))); (case aL => have := LMc8.out; omega); intro v535 w9 ho hb hg hat; rw [← Ny534.out] at ho; have n0_ := Aside0.mk (hb); have n1_ := Aside0.mk (ho); clear HB; clear HO_5; have HB := n0_; have HO536 := n1_; clear n0_ n1_; clear ho hb hg hat))
       go_roundg k1
       case measure => have := HK1.out; omega
       case rel => exact ⟨(y534), (wrap64 (x9_1 + 1)), (by first | rfl | (simp; done) | (simp [*]; done)), H', ⟨by have := HK1.out; omega⟩, ⟨by (with_reducible repeat (first | apply Kd.N_alloc | apply Kd.N_drewN | apply Kd.N_drew)); exact HO536.out⟩, ⟨by repeat (first | (with_reducible first | exact HB.out | apply below_alloc | apply pw_below_drewN | apply below_drew1) | exact HB.out)⟩⟩
      ·rw [if_neg c8] at H
       exact absurd H (by simp)
     ·rw [if_neg c7] at H
      exact absurd H (by simp)
    ·rw [if_neg c6] at H
     have c6b0 : decide (x9_1 < (l0.length : Int)) = false := decide_eq_false c6
     clear c6
     by_cases c10 : 0 ≤ t532
     ·rw [if_pos c10] at H
      have c10b0 := eq_true c10
      have c10b1 : decide (0 ≤ t532) = true := decide_eq_true c10
      clear c10
      by_cases c11 : t532 ≤ (l0.length : Int)
      ·rw [if_pos c11] at H
       have c11b0 := eq_true c11
       have c11b1 : decide (t532 ≤ (l0.length : Int)) = true := decide_eq_true c11
       clear c11
       obtain ⟨y537, hy537⟩ : ∃ y_ : List ByteArray, y_ = (l0.drop (t532 : Int).toNat) := ⟨_, rfl⟩
       replace H : (if ([] : List ByteArray).length + y537.length < 8796093022208 then ((some (([] : List ByteArray) ++ y537 : List ByteArray)).bind fun y541 => ((some (l0.take (t532 : Int).toNat : List ByteArray)).bind fun y544 => (if y541.length + y544.length < 8796093022208 then (if t532 ≤ (x5_1.length : Int) then ((some (x5_1.drop (t532 : Int).toNat : List (S50))).bind fun y551 => (if ([] : List (S50)).length + y551.length < 1172812402961 then ((some (([] : List (S50)) ++ y551 : List (S50))).bind fun y556 => ((some (x5_1.take (t532 : Int).toNat : List (S50))).bind fun y559 => (if y556.length + y559.length < 1172812402961 then ((order_Object.f k1 l0 x5_1).bind fun bt567 => ((order_Object.f k1 (y541 ++ y544) (y556 ++ y559)).bind fun bt584 => ((order_Twice.f l0).bind fun bt601 => (if (bt567.2.2.2.2.2.2.2.2.2 != bt584.2.2.2.2.2.2.2.2.2) = true then (erratumlaw06_OrderObjects.j1 k1 l0 bt567.2.2.2.2.2.2.2.2.2 true bt567.1 bt567.2.1 bt567.2.2.1 bt567.2.2.2.1 bt567.2.2.2.2.1 bt567.2.2.2.2.2.1 bt567.2.2.2.2.2.2.1 bt567.2.2.2.2.2.2.2.1 bt584.1 bt584.2.1 bt584.2.2.1 bt584.2.2.2.1 bt584.2.2.2.2.1 bt584.2.2.2.2.2.1 bt584.2.2.2.2.2.2.1 bt584.2.2.2.2.2.2.2.1) else (if (bt567.2.2.2.2.2.2.2.2.2 == bt601.2) = true then (erratumlaw06_OrderObjects.j1 k1 l0 bt567.2.2.2.2.2.2.2.2.2 true bt567.1 bt567.2.1 bt567.2.2.1 bt567.2.2.2.1 bt567.2.2.2.2.1 bt567.2.2.2.2.2.1 bt567.2.2.2.2.2.2.1 bt567.2.2.2.2.2.2.2.1 bt584.1 bt584.2.1 bt584.2.2.1 bt584.2.2.2.1 bt584.2.2.2.2.1 bt584.2.2.2.2.2.1 bt584.2.2.2.2.2.2.1 bt584.2.2.2.2.2.2.2.1) else (erratumlaw06_OrderObjects.j1 k1 l0 bt567.2.2.2.2.2.2.2.2.2 (bt567.2.2.2.2.2.2.2.2.1 != bt601.1) bt567.1 bt567.2.1 bt567.2.2.1 bt567.2.2.2.1 bt567.2.2.2.2.1 bt567.2.2.2.2.2.1 bt567.2.2.2.2.2.2.1 bt567.2.2.2.2.2.2.2.1 bt584.1 bt584.2.1 bt584.2.2.1 bt584.2.2.2.1 bt584.2.2.2.2.1 bt584.2.2.2.2.2.1 bt584.2.2.2.2.2.2.1 bt584.2.2.2.2.2.2.2.1)))))) else (none)))) else (none))) else (none)) else (none)))) else (none)) = some true := by first | (rw [hy537]; with_reducible exact H) | (have H2_ := (Option.bind_some _ _).symm.trans H; rw [hy537]; with_reducible exact H2_) | (have H2_ := (Option.bind_some _ _).symm.trans H; with_reducible exact H2_) | with_reducible exact H | (rw [hy537]; exact H) | exact H
       have Ny537 := Aside0.mk hy537
       clear hy537
       by_cases c12 : ([] : List ByteArray).length + y537.length < 8796093022208
       ·rw [if_pos c12] at H
        have LMc12 := Aside0.mk c12
        clear c12
        obtain ⟨y541, hy541⟩ : ∃ y_ : List ByteArray, y_ = (([] : List ByteArray) ++ y537) := ⟨_, rfl⟩
        replace H : ((some (l0.take (t532 : Int).toNat : List ByteArray)).bind fun y544 => (if y541.length + y544.length < 8796093022208 then (if t532 ≤ (x5_1.length : Int) then ((some (x5_1.drop (t532 : Int).toNat : List (S50))).bind fun y551 => (if ([] : List (S50)).length + y551.length < 1172812402961 then ((some (([] : List (S50)) ++ y551 : List (S50))).bind fun y556 => ((some (x5_1.take (t532 : Int).toNat : List (S50))).bind fun y559 => (if y556.length + y559.length < 1172812402961 then ((order_Object.f k1 l0 x5_1).bind fun bt567 => ((order_Object.f k1 (y541 ++ y544) (y556 ++ y559)).bind fun bt584 => ((order_Twice.f l0).bind fun bt601 => (if (bt567.2.2.2.2.2.2.2.2.2 != bt584.2.2.2.2.2.2.2.2.2) = true then (erratumlaw06_OrderObjects.j1 k1 l0 bt567.2.2.2.2.2.2.2.2.2 true bt567.1 bt567.2.1 bt567.2.2.1 bt567.2.2.2.1 bt567.2.2.2.2.1 bt567.2.2.2.2.2.1 bt567.2.2.2.2.2.2.1 bt567.2.2.2.2.2.2.2.1 bt584.1 bt584.2.1 bt584.2.2.1 bt584.2.2.2.1 bt584.2.2.2.2.1 bt584.2.2.2.2.2.1 bt584.2.2.2.2.2.2.1 bt584.2.2.2.2.2.2.2.1) else (if (bt567.2.2.2.2.2.2.2.2.2 == bt601.2) = true then (erratumlaw06_OrderObjects.j1 k1 l0 bt567.2.2.2.2.2.2.2.2.2 true bt567.1 bt567.2.1 bt567.2.2.1 bt567.2.2.2.1 bt567.2.2.2.2.1 bt567.2.2.2.2.2.1 bt567.2.2.2.2.2.2.1 bt567.2.2.2.2.2.2.2.1 bt584.1 bt584.2.1 bt584.2.2.1 bt584.2.2.2.1 bt584.2.2.2.2.1 bt584.2.2.2.2.2.1 bt584.2.2.2.2.2.2.1 bt584.2.2.2.2.2.2.2.1) else (erratumlaw06_OrderObjects.j1 k1 l0 bt567.2.2.2.2.2.2.2.2.2 (bt567.2.2.2.2.2.2.2.2.1 != bt601.1) bt567.1 bt567.2.1 bt567.2.2.1 bt567.2.2.2.1 bt567.2.2.2.2.1 bt567.2.2.2.2.2.1 bt567.2.2.2.2.2.2.1 bt567.2.2.2.2.2.2.2.1 bt584.1 bt584.2.1 bt584.2.2.1 bt584.2.2.2.1 bt584.2.2.2.2.1 bt584.2.2.2.2.2.1 bt584.2.2.2.2.2.2.1 bt584.2.2.2.2.2.2.2.1)))))) else (none)))) else (none))) else (none)) else (none))) = some true := by first | (rw [hy541]; with_reducible exact H) | (have H2_ := (Option.bind_some _ _).symm.trans H; rw [hy541]; with_reducible exact H2_) | (have H2_ := (Option.bind_some _ _).symm.trans H; with_reducible exact H2_) | with_reducible exact H | (rw [hy541]; exact H) | exact H
        have Ny541 := Aside0.mk hy541
        clear hy541
        have c13b0 := eq_true (of_decide_eq_true (by first | (with_reducible assumption) | assumption) : 0 ≤ t532)
        have c14b0 := eq_true (of_decide_eq_true (by first | (with_reducible assumption) | assumption) : t532 ≤ (l0.length : Int))
        obtain ⟨y544, hy544⟩ : ∃ y_ : List ByteArray, y_ = (l0.take (t532 : Int).toNat) := ⟨_, rfl⟩
        replace H : (if y541.length + y544.length < 8796093022208 then (if t532 ≤ (x5_1.length : Int) then ((some (x5_1.drop (t532 : Int).toNat : List (S50))).bind fun y551 => (if ([] : List (S50)).length + y551.length < 1172812402961 then ((some (([] : List (S50)) ++ y551 : List (S50))).bind fun y556 => ((some (x5_1.take (t532 : Int).toNat : List (S50))).bind fun y559 => (if y556.length + y559.length < 1172812402961 then ((order_Object.f k1 l0 x5_1).bind fun bt567 => ((order_Object.f k1 (y541 ++ y544) (y556 ++ y559)).bind fun bt584 => ((order_Twice.f l0).bind fun bt601 => (if (bt567.2.2.2.2.2.2.2.2.2 != bt584.2.2.2.2.2.2.2.2.2) = true then (erratumlaw06_OrderObjects.j1 k1 l0 bt567.2.2.2.2.2.2.2.2.2 true bt567.1 bt567.2.1 bt567.2.2.1 bt567.2.2.2.1 bt567.2.2.2.2.1 bt567.2.2.2.2.2.1 bt567.2.2.2.2.2.2.1 bt567.2.2.2.2.2.2.2.1 bt584.1 bt584.2.1 bt584.2.2.1 bt584.2.2.2.1 bt584.2.2.2.2.1 bt584.2.2.2.2.2.1 bt584.2.2.2.2.2.2.1 bt584.2.2.2.2.2.2.2.1) else (if (bt567.2.2.2.2.2.2.2.2.2 == bt601.2) = true then (erratumlaw06_OrderObjects.j1 k1 l0 bt567.2.2.2.2.2.2.2.2.2 true bt567.1 bt567.2.1 bt567.2.2.1 bt567.2.2.2.1 bt567.2.2.2.2.1 bt567.2.2.2.2.2.1 bt567.2.2.2.2.2.2.1 bt567.2.2.2.2.2.2.2.1 bt584.1 bt584.2.1 bt584.2.2.1 bt584.2.2.2.1 bt584.2.2.2.2.1 bt584.2.2.2.2.2.1 bt584.2.2.2.2.2.2.1 bt584.2.2.2.2.2.2.2.1) else (erratumlaw06_OrderObjects.j1 k1 l0 bt567.2.2.2.2.2.2.2.2.2 (bt567.2.2.2.2.2.2.2.2.1 != bt601.1) bt567.1 bt567.2.1 bt567.2.2.1 bt567.2.2.2.1 bt567.2.2.2.2.1 bt567.2.2.2.2.2.1 bt567.2.2.2.2.2.2.1 bt567.2.2.2.2.2.2.2.1 bt584.1 bt584.2.1 bt584.2.2.1 bt584.2.2.2.1 bt584.2.2.2.2.1 bt584.2.2.2.2.2.1 bt584.2.2.2.2.2.2.1 bt584.2.2.2.2.2.2.2.1)))))) else (none)))) else (none))) else (none)) else (none)) = some true := by first | (rw [hy544]; with_reducible exact H) | (have H2_ := (Option.bind_some _ _).symm.trans H; rw [hy544]; with_reducible exact H2_) | (have H2_ := (Option.bind_some _ _).symm.trans H; with_reducible exact H2_) | with_reducible exact H | (rw [hy544]; exact H) | exact H
        have Ny544 := Aside0.mk hy544
        clear hy544
        by_cases c15 : y541.length + y544.length < 8796093022208
        ·rw [if_pos c15] at H
         have LMc15 := Aside0.mk c15
         clear c15
         obtain ⟨y548, hy548⟩ : ∃ y_ : List ByteArray, y_ = (y541 ++ y544) := ⟨_, rfl⟩
         replace H : (if t532 ≤ (x5_1.length : Int) then ((some (x5_1.drop (t532 : Int).toNat : List (S50))).bind fun y551 => (if ([] : List (S50)).length + y551.length < 1172812402961 then ((some (([] : List (S50)) ++ y551 : List (S50))).bind fun y556 => ((some (x5_1.take (t532 : Int).toNat : List (S50))).bind fun y559 => (if y556.length + y559.length < 1172812402961 then ((order_Object.f k1 l0 x5_1).bind fun bt567 => ((order_Object.f k1 y548 (y556 ++ y559)).bind fun bt584 => ((order_Twice.f l0).bind fun bt601 => (if (bt567.2.2.2.2.2.2.2.2.2 != bt584.2.2.2.2.2.2.2.2.2) = true then (erratumlaw06_OrderObjects.j1 k1 l0 bt567.2.2.2.2.2.2.2.2.2 true bt567.1 bt567.2.1 bt567.2.2.1 bt567.2.2.2.1 bt567.2.2.2.2.1 bt567.2.2.2.2.2.1 bt567.2.2.2.2.2.2.1 bt567.2.2.2.2.2.2.2.1 bt584.1 bt584.2.1 bt584.2.2.1 bt584.2.2.2.1 bt584.2.2.2.2.1 bt584.2.2.2.2.2.1 bt584.2.2.2.2.2.2.1 bt584.2.2.2.2.2.2.2.1) else (if (bt567.2.2.2.2.2.2.2.2.2 == bt601.2) = true then (erratumlaw06_OrderObjects.j1 k1 l0 bt567.2.2.2.2.2.2.2.2.2 true bt567.1 bt567.2.1 bt567.2.2.1 bt567.2.2.2.1 bt567.2.2.2.2.1 bt567.2.2.2.2.2.1 bt567.2.2.2.2.2.2.1 bt567.2.2.2.2.2.2.2.1 bt584.1 bt584.2.1 bt584.2.2.1 bt584.2.2.2.1 bt584.2.2.2.2.1 bt584.2.2.2.2.2.1 bt584.2.2.2.2.2.2.1 bt584.2.2.2.2.2.2.2.1) else (erratumlaw06_OrderObjects.j1 k1 l0 bt567.2.2.2.2.2.2.2.2.2 (bt567.2.2.2.2.2.2.2.2.1 != bt601.1) bt567.1 bt567.2.1 bt567.2.2.1 bt567.2.2.2.1 bt567.2.2.2.2.1 bt567.2.2.2.2.2.1 bt567.2.2.2.2.2.2.1 bt567.2.2.2.2.2.2.2.1 bt584.1 bt584.2.1 bt584.2.2.1 bt584.2.2.2.1 bt584.2.2.2.2.1 bt584.2.2.2.2.2.1 bt584.2.2.2.2.2.2.1 bt584.2.2.2.2.2.2.2.1)))))) else (none)))) else (none))) else (none)) = some true := by first | (rw [hy548]; with_reducible exact H) | (have H2_ := (Option.bind_some _ _).symm.trans H; rw [hy548]; with_reducible exact H2_) | (have H2_ := (Option.bind_some _ _).symm.trans H; with_reducible exact H2_) | with_reducible exact H | (rw [hy548]; exact H) | exact H
         have Ny548 := Aside0.mk hy548
         clear hy548
         have c16b0 := eq_true (of_decide_eq_true (by first | (with_reducible assumption) | assumption) : 0 ≤ t532)
         by_cases c17 : t532 ≤ (x5_1.length : Int)
         ·rw [if_pos c17] at H
          have c17b0 := eq_true c17
          have c17b1 : decide (t532 ≤ (x5_1.length : Int)) = true := decide_eq_true c17
          clear c17
          obtain ⟨y551, hy551⟩ : ∃ y_ : List (S50), y_ = (x5_1.drop (t532 : Int).toNat) := ⟨_, rfl⟩
          replace H : (if ([] : List (S50)).length + y551.length < 1172812402961 then ((some (([] : List (S50)) ++ y551 : List (S50))).bind fun y556 => ((some (x5_1.take (t532 : Int).toNat : List (S50))).bind fun y559 => (if y556.length + y559.length < 1172812402961 then ((order_Object.f k1 l0 x5_1).bind fun bt567 => ((order_Object.f k1 y548 (y556 ++ y559)).bind fun bt584 => ((order_Twice.f l0).bind fun bt601 => (if (bt567.2.2.2.2.2.2.2.2.2 != bt584.2.2.2.2.2.2.2.2.2) = true then (erratumlaw06_OrderObjects.j1 k1 l0 bt567.2.2.2.2.2.2.2.2.2 true bt567.1 bt567.2.1 bt567.2.2.1 bt567.2.2.2.1 bt567.2.2.2.2.1 bt567.2.2.2.2.2.1 bt567.2.2.2.2.2.2.1 bt567.2.2.2.2.2.2.2.1 bt584.1 bt584.2.1 bt584.2.2.1 bt584.2.2.2.1 bt584.2.2.2.2.1 bt584.2.2.2.2.2.1 bt584.2.2.2.2.2.2.1 bt584.2.2.2.2.2.2.2.1) else (if (bt567.2.2.2.2.2.2.2.2.2 == bt601.2) = true then (erratumlaw06_OrderObjects.j1 k1 l0 bt567.2.2.2.2.2.2.2.2.2 true bt567.1 bt567.2.1 bt567.2.2.1 bt567.2.2.2.1 bt567.2.2.2.2.1 bt567.2.2.2.2.2.1 bt567.2.2.2.2.2.2.1 bt567.2.2.2.2.2.2.2.1 bt584.1 bt584.2.1 bt584.2.2.1 bt584.2.2.2.1 bt584.2.2.2.2.1 bt584.2.2.2.2.2.1 bt584.2.2.2.2.2.2.1 bt584.2.2.2.2.2.2.2.1) else (erratumlaw06_OrderObjects.j1 k1 l0 bt567.2.2.2.2.2.2.2.2.2 (bt567.2.2.2.2.2.2.2.2.1 != bt601.1) bt567.1 bt567.2.1 bt567.2.2.1 bt567.2.2.2.1 bt567.2.2.2.2.1 bt567.2.2.2.2.2.1 bt567.2.2.2.2.2.2.1 bt567.2.2.2.2.2.2.2.1 bt584.1 bt584.2.1 bt584.2.2.1 bt584.2.2.2.1 bt584.2.2.2.2.1 bt584.2.2.2.2.2.1 bt584.2.2.2.2.2.2.1 bt584.2.2.2.2.2.2.2.1)))))) else (none)))) else (none)) = some true := by first | (rw [hy551]; with_reducible exact H) | (have H2_ := (Option.bind_some _ _).symm.trans H; rw [hy551]; with_reducible exact H2_) | (have H2_ := (Option.bind_some _ _).symm.trans H; with_reducible exact H2_) | with_reducible exact H | (rw [hy551]; exact H) | exact H
          have Ny551 := Aside0.mk hy551
          clear hy551
          by_cases c18 : ([] : List (S50)).length + y551.length < 1172812402961
          ·rw [if_pos c18] at H
           have LMc18 := Aside0.mk c18
           clear c18
           obtain ⟨y556, hy556⟩ : ∃ y_ : List (S50), y_ = (([] : List (S50)) ++ y551) := ⟨_, rfl⟩
           replace H : ((some (x5_1.take (t532 : Int).toNat : List (S50))).bind fun y559 => (if y556.length + y559.length < 1172812402961 then ((order_Object.f k1 l0 x5_1).bind fun bt567 => ((order_Object.f k1 y548 (y556 ++ y559)).bind fun bt584 => ((order_Twice.f l0).bind fun bt601 => (if (bt567.2.2.2.2.2.2.2.2.2 != bt584.2.2.2.2.2.2.2.2.2) = true then (erratumlaw06_OrderObjects.j1 k1 l0 bt567.2.2.2.2.2.2.2.2.2 true bt567.1 bt567.2.1 bt567.2.2.1 bt567.2.2.2.1 bt567.2.2.2.2.1 bt567.2.2.2.2.2.1 bt567.2.2.2.2.2.2.1 bt567.2.2.2.2.2.2.2.1 bt584.1 bt584.2.1 bt584.2.2.1 bt584.2.2.2.1 bt584.2.2.2.2.1 bt584.2.2.2.2.2.1 bt584.2.2.2.2.2.2.1 bt584.2.2.2.2.2.2.2.1) else (if (bt567.2.2.2.2.2.2.2.2.2 == bt601.2) = true then (erratumlaw06_OrderObjects.j1 k1 l0 bt567.2.2.2.2.2.2.2.2.2 true bt567.1 bt567.2.1 bt567.2.2.1 bt567.2.2.2.1 bt567.2.2.2.2.1 bt567.2.2.2.2.2.1 bt567.2.2.2.2.2.2.1 bt567.2.2.2.2.2.2.2.1 bt584.1 bt584.2.1 bt584.2.2.1 bt584.2.2.2.1 bt584.2.2.2.2.1 bt584.2.2.2.2.2.1 bt584.2.2.2.2.2.2.1 bt584.2.2.2.2.2.2.2.1) else (erratumlaw06_OrderObjects.j1 k1 l0 bt567.2.2.2.2.2.2.2.2.2 (bt567.2.2.2.2.2.2.2.2.1 != bt601.1) bt567.1 bt567.2.1 bt567.2.2.1 bt567.2.2.2.1 bt567.2.2.2.2.1 bt567.2.2.2.2.2.1 bt567.2.2.2.2.2.2.1 bt567.2.2.2.2.2.2.2.1 bt584.1 bt584.2.1 bt584.2.2.1 bt584.2.2.2.1 bt584.2.2.2.2.1 bt584.2.2.2.2.2.1 bt584.2.2.2.2.2.2.1 bt584.2.2.2.2.2.2.2.1)))))) else (none))) = some true := by first | (rw [hy556]; with_reducible exact H) | (have H2_ := (Option.bind_some _ _).symm.trans H; rw [hy556]; with_reducible exact H2_) | (have H2_ := (Option.bind_some _ _).symm.trans H; with_reducible exact H2_) | with_reducible exact H | (rw [hy556]; exact H) | exact H
           have Ny556 := Aside0.mk hy556
           clear hy556
           have c19b0 := eq_true (of_decide_eq_true (by first | (with_reducible assumption) | assumption) : 0 ≤ t532)
           have c20b0 := eq_true (of_decide_eq_true (by first | (with_reducible assumption) | assumption) : t532 ≤ (x5_1.length : Int))
           obtain ⟨y559, hy559⟩ : ∃ y_ : List (S50), y_ = (x5_1.take (t532 : Int).toNat) := ⟨_, rfl⟩
           replace H : (if y556.length + y559.length < 1172812402961 then ((order_Object.f k1 l0 x5_1).bind fun bt567 => ((order_Object.f k1 y548 (y556 ++ y559)).bind fun bt584 => ((order_Twice.f l0).bind fun bt601 => (if (bt567.2.2.2.2.2.2.2.2.2 != bt584.2.2.2.2.2.2.2.2.2) = true then (erratumlaw06_OrderObjects.j1 k1 l0 bt567.2.2.2.2.2.2.2.2.2 true bt567.1 bt567.2.1 bt567.2.2.1 bt567.2.2.2.1 bt567.2.2.2.2.1 bt567.2.2.2.2.2.1 bt567.2.2.2.2.2.2.1 bt567.2.2.2.2.2.2.2.1 bt584.1 bt584.2.1 bt584.2.2.1 bt584.2.2.2.1 bt584.2.2.2.2.1 bt584.2.2.2.2.2.1 bt584.2.2.2.2.2.2.1 bt584.2.2.2.2.2.2.2.1) else (if (bt567.2.2.2.2.2.2.2.2.2 == bt601.2) = true then (erratumlaw06_OrderObjects.j1 k1 l0 bt567.2.2.2.2.2.2.2.2.2 true bt567.1 bt567.2.1 bt567.2.2.1 bt567.2.2.2.1 bt567.2.2.2.2.1 bt567.2.2.2.2.2.1 bt567.2.2.2.2.2.2.1 bt567.2.2.2.2.2.2.2.1 bt584.1 bt584.2.1 bt584.2.2.1 bt584.2.2.2.1 bt584.2.2.2.2.1 bt584.2.2.2.2.2.1 bt584.2.2.2.2.2.2.1 bt584.2.2.2.2.2.2.2.1) else (erratumlaw06_OrderObjects.j1 k1 l0 bt567.2.2.2.2.2.2.2.2.2 (bt567.2.2.2.2.2.2.2.2.1 != bt601.1) bt567.1 bt567.2.1 bt567.2.2.1 bt567.2.2.2.1 bt567.2.2.2.2.1 bt567.2.2.2.2.2.1 bt567.2.2.2.2.2.2.1 bt567.2.2.2.2.2.2.2.1 bt584.1 bt584.2.1 bt584.2.2.1 bt584.2.2.2.1 bt584.2.2.2.2.1 bt584.2.2.2.2.2.1 bt584.2.2.2.2.2.2.1 bt584.2.2.2.2.2.2.2.1)))))) else (none)) = some true := by first | (rw [hy559]; with_reducible exact H) | (have H2_ := (Option.bind_some _ _).symm.trans H; rw [hy559]; with_reducible exact H2_) | (have H2_ := (Option.bind_some _ _).symm.trans H; with_reducible exact H2_) | with_reducible exact H | (rw [hy559]; exact H) | exact H
           have Ny559 := Aside0.mk hy559
           clear hy559
           by_cases c21 : y556.length + y559.length < 1172812402961
           ·rw [if_pos c21] at H
            have LMc21 := Aside0.mk c21
            clear c21
            obtain ⟨y564, hy564⟩ : ∃ y_ : List (S50), y_ = (y556 ++ y559) := ⟨_, rfl⟩
            replace H : ((order_Object.f k1 l0 x5_1).bind fun bt567 => ((order_Object.f k1 y548 y564).bind fun bt584 => ((order_Twice.f l0).bind fun bt601 => (if (bt567.2.2.2.2.2.2.2.2.2 != bt584.2.2.2.2.2.2.2.2.2) = true then (erratumlaw06_OrderObjects.j1 k1 l0 bt567.2.2.2.2.2.2.2.2.2 true bt567.1 bt567.2.1 bt567.2.2.1 bt567.2.2.2.1 bt567.2.2.2.2.1 bt567.2.2.2.2.2.1 bt567.2.2.2.2.2.2.1 bt567.2.2.2.2.2.2.2.1 bt584.1 bt584.2.1 bt584.2.2.1 bt584.2.2.2.1 bt584.2.2.2.2.1 bt584.2.2.2.2.2.1 bt584.2.2.2.2.2.2.1 bt584.2.2.2.2.2.2.2.1) else (if (bt567.2.2.2.2.2.2.2.2.2 == bt601.2) = true then (erratumlaw06_OrderObjects.j1 k1 l0 bt567.2.2.2.2.2.2.2.2.2 true bt567.1 bt567.2.1 bt567.2.2.1 bt567.2.2.2.1 bt567.2.2.2.2.1 bt567.2.2.2.2.2.1 bt567.2.2.2.2.2.2.1 bt567.2.2.2.2.2.2.2.1 bt584.1 bt584.2.1 bt584.2.2.1 bt584.2.2.2.1 bt584.2.2.2.2.1 bt584.2.2.2.2.2.1 bt584.2.2.2.2.2.2.1 bt584.2.2.2.2.2.2.2.1) else (erratumlaw06_OrderObjects.j1 k1 l0 bt567.2.2.2.2.2.2.2.2.2 (bt567.2.2.2.2.2.2.2.2.1 != bt601.1) bt567.1 bt567.2.1 bt567.2.2.1 bt567.2.2.2.1 bt567.2.2.2.2.1 bt567.2.2.2.2.2.1 bt567.2.2.2.2.2.2.1 bt567.2.2.2.2.2.2.2.1 bt584.1 bt584.2.1 bt584.2.2.1 bt584.2.2.2.1 bt584.2.2.2.2.1 bt584.2.2.2.2.2.1 bt584.2.2.2.2.2.2.1 bt584.2.2.2.2.2.2.2.1)))))) = some true := by first | (rw [hy564]; with_reducible exact H) | (have H2_ := (Option.bind_some _ _).symm.trans H; rw [hy564]; with_reducible exact H2_) | (have H2_ := (Option.bind_some _ _).symm.trans H; with_reducible exact H2_) | with_reducible exact H | (rw [hy564]; exact H) | exact H
            have Ny564 := Aside0.mk hy564
            clear hy564
            replace H := Option.bind_eq_some_iff.mp H
            obtain ⟨⟨t567, t568, t569, t570, t573, t574, t575, t578, t581, t582⟩, A220, H⟩ := H
            replace H : ((order_Object.f k1 y548 y564).bind fun bt584 => ((order_Twice.f l0).bind fun bt601 => (if (t582 != bt584.2.2.2.2.2.2.2.2.2) = true then (erratumlaw06_OrderObjects.j1 k1 l0 t582 true t567 t568 t569 t570 t573 t574 t575 t578 bt584.1 bt584.2.1 bt584.2.2.1 bt584.2.2.2.1 bt584.2.2.2.2.1 bt584.2.2.2.2.2.1 bt584.2.2.2.2.2.2.1 bt584.2.2.2.2.2.2.2.1) else (if (t582 == bt601.2) = true then (erratumlaw06_OrderObjects.j1 k1 l0 t582 true t567 t568 t569 t570 t573 t574 t575 t578 bt584.1 bt584.2.1 bt584.2.2.1 bt584.2.2.2.1 bt584.2.2.2.2.1 bt584.2.2.2.2.2.1 bt584.2.2.2.2.2.2.1 bt584.2.2.2.2.2.2.2.1) else (erratumlaw06_OrderObjects.j1 k1 l0 t582 (t581 != bt601.1) t567 t568 t569 t570 t573 t574 t575 t578 bt584.1 bt584.2.1 bt584.2.2.1 bt584.2.2.2.1 bt584.2.2.2.2.1 bt584.2.2.2.2.2.1 bt584.2.2.2.2.2.2.1 bt584.2.2.2.2.2.2.2.1))))) = some true := H
            have A22 := Aside0.mk A220
            clear A220
            replace H := Option.bind_eq_some_iff.mp H
            obtain ⟨⟨t584, t585, t586, t587, t590, t591, t592, t595, t598, t599⟩, A230, H⟩ := H
            replace H : ((order_Twice.f l0).bind fun bt601 => (if (t582 != t599) = true then (erratumlaw06_OrderObjects.j1 k1 l0 t582 true t567 t568 t569 t570 t573 t574 t575 t578 t584 t585 t586 t587 t590 t591 t592 t595) else (if (t582 == bt601.2) = true then (erratumlaw06_OrderObjects.j1 k1 l0 t582 true t567 t568 t569 t570 t573 t574 t575 t578 t584 t585 t586 t587 t590 t591 t592 t595) else (erratumlaw06_OrderObjects.j1 k1 l0 t582 (t581 != bt601.1) t567 t568 t569 t570 t573 t574 t575 t578 t584 t585 t586 t587 t590 t591 t592 t595)))) = some true := H
            have A23 := Aside0.mk A230
            clear A230
            replace H := Option.bind_eq_some_iff.mp H
            obtain ⟨⟨t601, t602⟩, A240, H⟩ := H
            replace H : (if (t582 != t599) = true then (erratumlaw06_OrderObjects.j1 k1 l0 t582 true t567 t568 t569 t570 t573 t574 t575 t578 t584 t585 t586 t587 t590 t591 t592 t595) else (if (t582 == t602) = true then (erratumlaw06_OrderObjects.j1 k1 l0 t582 true t567 t568 t569 t570 t573 t574 t575 t578 t584 t585 t586 t587 t590 t591 t592 t595) else (erratumlaw06_OrderObjects.j1 k1 l0 t582 (t581 != t601) t567 t568 t569 t570 t573 t574 t575 t578 t584 t585 t586 t587 t590 t591 t592 t595))) = some true := H
            have A24 := Aside0.mk A240
            clear A240
            have HC25 := Aside0.mk H
            clear H
            try go_wp2
            have n0_ := Aside0.mk (Kd.N_drew HO_5.out)
            have n1_ := Aside0.mk (below_drew1 HB.out)
            clear HO_5
            clear HB
            have HO_5 := n0_
            have HB := n1_
            clear n0_ n1_
            have q27 : (t532 : Int) ≤ ((l0.length : Int) : Int) := of_decide_eq_true (by first | (with_reducible assumption) | assumption)
            obtain ⟨i027, hi027, _, hsz27, _⟩ := info_parts info9
            have hroom27 : l0.length ≤ c0 := HC0.out
            have hC27 : Kd.C Kd.string _ A0 l0.length l0 := HR0.out
            have q027 : (0 : Int) ≤ (t532 : Int) := of_decide_eq_true (by first | (with_reducible assumption) | assumption)
            have hcut27 := cut_from (P := Try.prog) 35 9 .i64 Try.underlying35 hi027 1 hsz27 A0 l0.length c0 t532 q027 q27
            have hr27 := Kd.C_drop (m := (t532 : Int).toNat) (c := c0) hC27 (by omega) hroom27
            obtain ⟨A27, hA27⟩ : ∃ A1, A1 = (if c0 = (t532 : Int).toNat then A0 else (A0 : Option Addr).map (·.add ((t532 : Int).toNat * 1))) := ⟨_, rfl⟩
            obtain ⟨c27, hc27⟩ : ∃ c1, c1 = c0 - (t532 : Int).toNat := ⟨_, rfl⟩
            have hy27 : y537.length = l0.length - (t532 : Int).toNat := (by rw [Ny537.out, List.length_drop] <;> omega)
            rw [show (l0).drop (t532 : Int).toNat = y537 from Ny537.out.symm] at hr27
            replace hr27 : Kd.C Kd.string _ A27 y537.length y537 := (by rw [hA27]; exact hr27)
            rw [← hy27, ← hA27, ← hc27] at hcut27
            have HR540 := Aside0.mk hr27
            have HC540 := Aside0.mk (show y537.length ≤ c27 from by rw [hy27, hc27]; exact Nat.sub_le_sub_right hroom27 _)
            clear hr27 hC27 hroom27 hi027 hsz27 hc27
            have KY27 := Aside0.mk hy27
            have KA27 := Aside0.mk hA27
            clear hy27 hA27
            replace q27 := eq_true q27
            have q28 : (t532 : Int) ≤ ((l0.length : Int) : Int) := of_decide_eq_true (by first | (with_reducible assumption) | assumption)
            obtain ⟨i028, hi028, _, hsz28, _⟩ := info_parts info9
            have hroom28 : l0.length ≤ c0 := HC0.out
            have hC28 : Kd.C Kd.string _ A0 l0.length l0 := HR0.out
            have hcut28 := cut_to (P := Try.prog) 35 9 .i64 Try.underlying35 hi028 A0 l0.length c0 t532 (of_decide_eq_true (by first | (with_reducible assumption) | assumption)) q28 hroom28
            have hr28 := Kd.C_take (m := (t532 : Int).toNat) hC28 (by omega)
            have hy28 : y544.length = (t532 : Int).toNat := (by rw [Ny544.out, List.length_take]; omega)
            rw [← Ny544.out] at hr28
            rw [← hy28] at hcut28
            have HR547 := Aside0.mk hr28
            have HC547 := Aside0.mk (show y544.length ≤ c0 from by omega)
            clear hr28 hC28 hroom28 hi028 hsz28
            have KY28 := Aside0.mk hy28
            clear hy28
            replace q28 := eq_true q28
            refine start_ (n := 10) (S := fun w' => True) (ds := []) #[false, false, false, false, false, false, false, false, false, false] (by kernel_rfl) rfl rfl trivial (fun hHeld => ?_); refine with_tabW erratumlaw06_OrderObjects.tab10 erratumlaw06_OrderObjects.bits10 (fun HT_ HW_ => ?_)
            generalize wr.drew = w26 at HO_5 HB HR540 HR547 hHeld ⊢
            refine pure_ (i := 0) (N := some 42) (v := ?_) (a' := ?_) #[true, false, false, false, false, false, false, false, false, false] rfl rfl (any_of HT_.out (by kernel_rfl)) (fun _ _ _ h => h) (Or.inl ⟨by rfl, ?_⟩) ?_ ?_
            rotate_left
            ·intro w'
             go_simp
             with_reducible rfl
            rotate_left
            ·simp only [Act.put, List.setIfInBounds_toArray, List.set_cons_zero, List.set_cons_succ, i64_w, i32_w]
             rfl
            refine pure_ (i := 1) (N := some 43) (v := ?_) (a' := ?_) #[true, true, false, false, false, false, false, false, false, false] rfl rfl (any_of HT_.out (by kernel_rfl)) (fun _ _ _ h => h) (Or.inl ⟨by rfl, ?_⟩) ?_ ?_
            rotate_left
            ·intro w'
             go_simp
             with_reducible rfl
            rotate_left
            ·simp only [Act.put, List.setIfInBounds_toArray, List.set_cons_zero, List.set_cons_succ, i64_w, i32_w]
             rfl
            refine pure_ (i := 2) (N := some 44) (v := ?_) (a' := ?_) #[true, true, true, false, false, false, false, false, false, false] rfl rfl (any_of HT_.out (by kernel_rfl)) (fun _ _ _ h => h) (Or.inl ⟨by rfl, ?_⟩) ?_ ?_
            rotate_left
            ·intro w'
             go_simp
             with_reducible rfl
            rotate_left
            ·simp only [Act.put, List.setIfInBounds_toArray, List.set_cons_zero, List.set_cons_succ, i64_w, i32_w]
             rfl
            refine pure_ (i := 3) (N := some 45) (v := ?_) (a' := ?_) #[true, true, true, true, false, false, false, false, false, false] rfl rfl (any_of HT_.out (by kernel_rfl)) (fun _ _ _ h => h) (Or.inl ⟨by rfl, ?_⟩) ?_ ?_
            rotate_left
            ·intro w'
             go_simp
             with_reducible rfl
            rotate_left
            ·simp only [Act.put, List.setIfInBounds_toArray, List.set_cons_zero, List.set_cons_succ, i64_w, i32_w]
             rfl
            refine pure_ (i := 5) (N := some 47) (v := ?_) (a' := ?_) #[true, true, true, true, false, true, false, false, false, false] rfl rfl (any_of HT_.out (by kernel_rfl)) (fun _ _ _ h => h) (Or.inl ⟨by rfl, ?_⟩) ?_ ?_
            rotate_left
            ·intro w'
             go_simp
             with_reducible rfl
            rotate_left
            ·simp only [Act.put, List.setIfInBounds_toArray, List.set_cons_zero, List.set_cons_succ, i64_w, i32_w]
             rfl
            refine pure_ (i := 6) (N := some 48) (v := ?_) (a' := ?_) #[true, true, true, true, false, true, true, false, false, false] rfl rfl (any_of HT_.out (by kernel_rfl)) (fun _ _ _ h => h) (Or.inl ⟨by rfl, ?_⟩) ?_ ?_
            rotate_left
            ·intro w'
             go_simp
             with_reducible rfl
            rotate_left
            ·simp only [Act.put, List.setIfInBounds_toArray, List.set_cons_zero, List.set_cons_succ, i64_w, i32_w]
             rfl
            refine pure_ (i := 7) (N := some 49) (v := ?_) (a' := ?_) #[true, true, true, true, false, true, true, true, false, false] rfl rfl (any_of HT_.out (by kernel_rfl)) (fun _ _ _ h => h) (Or.inl ⟨by rfl, ?_⟩) ?_ ?_
            rotate_left
            ·intro w'
             go_simp
             with_reducible rfl
            rotate_left
            ·simp only [Act.put, List.setIfInBounds_toArray, List.set_cons_zero, List.set_cons_succ, i64_w, i32_w]
             rfl
            refine one_ (i := 4) (N := some 46) #[true, true, true, true, true, true, true, true, false, false] rfl rfl (one_of HT_.out (by kernel_rfl)) (by decide) (fun K hK => ?_)
            refine Kd.R_append_rows_step Kd.string (w0 := w) w.heap.size (by rfl) (.tmp 42) (.tmp 45) 35 9 (.string ⟨#[]⟩) 16 rfl Try.underlying35 info9 rfl (by decide) (by omega) (.slice none 0 0) ([] : List ByteArray) y537 _ _ _ (fun _ => True) (fun _ => False) rfl rfl ?aO ?aR (fun _ _ h => h) (fun _ h => h.elim) ?aF ?aB ?aS ?aL ?_
            (case aR => repeat (first | exact (Kd.C_below HR540.out HB.out) | (with_reducible refine Kd.C_alloc ?_ _) | (with_reducible refine Kd.C_drewN ?_ _) | (with_reducible refine Kd.C_drew ?_)))
            (case aB => exact (by repeat (first | (with_reducible first | exact HB.out | apply below_alloc | apply pw_below_drewN | apply below_drew1) | exact HB.out)))
            (case aF => exact (fun _ _ => trivial))
            (case aO => exact ((Kd.R_nil _ _ _ _ (fun _ => True))))
            (case aS => exact (below_size (by repeat (first | (with_reducible first | exact HB.out | apply below_alloc | apply pw_below_drewN | apply below_drew1) | exact HB.out))))
            (case aL => have := LMc12.out; omega)
            intro v542 w29 ho hb hg hat
            rw [← Ny541.out] at ho
            have n0_ := Aside0.mk (Kd.N_afterv (Kd.N_apart_nil (by (with_reducible repeat (first | apply Kd.N_alloc | apply Kd.N_drewN | apply Kd.N_drew)); exact HO_5.out)) hg hat)
            have n1_ := Aside0.mk (hb)
            have n2_ := Aside0.mk (ho)
            clear HO_5
            clear HB
            have HO_5 := n0_
            have HB := n1_
            have HO543 := n2_
            clear n0_ n1_ n2_
            clear ho hb hg hat
            refine hK.out _ _ trivial (fun hHeld => ?_)
            clear hK K
            refine norm_ (a' := ?_) ?_ ?_
            rotate_left
            ·show Act.put _ (some 46) _ = _
             simp only [Act.put, List.setIfInBounds_toArray, List.set_cons_zero, List.set_cons_succ, i64_w, i32_w]
             rfl
            refine one_ (i := 8) (N := some 50) #[true, true, true, true, true, true, true, true, true, false] rfl rfl (one_of HT_.out (by kernel_rfl)) (by decide) (fun K hK => ?_)
            refine Kd.R_append_rows_step Kd.string (w0 := w) w.heap.size (by rfl) (.tmp 46) (.tmp 49) 35 9 (.string ⟨#[]⟩) 16 rfl Try.underlying35 info9 rfl (by decide) (by omega) v542 y541 y544 _ _ _ (fun _ => True) (fun _ => False) rfl rfl ?aO ?aR (fun _ _ h => h) (fun _ h => h.elim) ?aF ?aB ?aS ?aL ?_
            (case aR => repeat (first | exact (Kd.C_below HR547.out HB.out) | (with_reducible refine Kd.C_alloc ?_ _) | (with_reducible refine Kd.C_drewN ?_ _) | (with_reducible refine Kd.C_drew ?_)))
            (case aB => exact (by repeat (first | (with_reducible first | exact HB.out | apply below_alloc | apply pw_below_drewN | apply below_drew1) | exact HB.out)))
            (case aF => exact (fun _ _ => trivial))
            (case aO => exact (by (with_reducible repeat (first | apply Kd.R_alloc | apply Kd.R_drewN | apply Kd.R_drew)); exact HO543.out))
            (case aS => exact (below_size (by repeat (first | (with_reducible first | exact HB.out | apply below_alloc | apply pw_below_drewN | apply below_drew1) | exact HB.out))))
            (case aL => have := LMc15.out; omega)
            intro v549 w30 ho hb hg hat
            rw [← Ny548.out] at ho
            have n0_ := Aside0.mk (Kd.N_afterv (ok := (fun _ => True)) (by (with_reducible repeat (first | apply Kd.N_alloc | apply Kd.N_drewN | apply Kd.N_drew)); exact HO_5.out) hg hat)
            have n1_ := Aside0.mk (hb)
            have n2_ := Aside0.mk (ho)
            clear HO_5
            clear HB
            clear HO543
            have HO_5 := n0_
            have HB := n1_
            have HO550 := n2_
            clear n0_ n1_ n2_
            clear ho hb hg hat
            refine hK.out _ _ trivial (fun hHeld => ?_)
            clear hK K
            refine norm_ (a' := ?_) ?_ ?_
            rotate_left
            ·show Act.put _ (some 50) _ = _
             simp only [Act.put, List.setIfInBounds_toArray, List.set_cons_zero, List.set_cons_succ, i64_w, i32_w]
             rfl
            refine pure_ (i := 9) (N := some 7) (v := ?_) (a' := ?_) #[true, true, true, true, true, true, true, true, true, true] rfl rfl (any_of HT_.out (by kernel_rfl)) (fun _ _ _ h => h) (Or.inl ⟨by rfl, ?_⟩) ?_ ?_
            rotate_left
            ·intro w'
             go_simp
             with_reducible rfl
            rotate_left
            ·simp only [Act.put, List.setIfInBounds_toArray, List.set_cons_zero, List.set_cons_succ, i64_w, i32_w]
             rfl
            refine done_ (done_of HT_.out (by kernel_rfl)) ?_
            try go_wp2
            have n0_ := Aside0.mk (Kd.N_drew HO_5.out)
            have n1_ := Aside0.mk (Kd.R_drew HO550.out)
            have n2_ := Aside0.mk (below_drew1 HB.out)
            clear HO_5
            clear HO550
            clear HB
            have HO_5 := n0_
            have HO550 := n1_
            have HB := n2_
            clear n0_ n1_ n2_
            obtain ⟨Ao33, co33, eo33⟩ := Kd.N_slice HO_5.out
            (first | subst eo33 | (injection eo33 with f1_ f2_ f3_; have f4_ := f1_.symm; have f5_ := f3_.symm; clear f1_ f2_ f3_; subst f4_; subst f5_))
            have q32 : (t532 : Int) ≤ ((x5_1.length : Int) : Int) := of_decide_eq_true (by first | (with_reducible assumption) | assumption)
            obtain ⟨i032, hi032, _, hsz32, _⟩ := info_parts info50
            have hroom32 : x5_1.length ≤ co33 := (Kd.N_reads' HO_5.out).2.1
            have hC32 : Kd.F k50 _ _ Ao33 x5_1.length x5_1 := (Kd.V_at (base := w.heap.size) (Kd.N_V HO_5.out)).2.2
            have q032 : (0 : Int) ≤ (t532 : Int) := of_decide_eq_true (by first | (with_reducible assumption) | assumption)
            have hcut32 := cut_from (P := Try.prog) 44 50 .i64 Try.underlying44 hi032 8 hsz32 Ao33 x5_1.length co33 t532 q032 q32
            have hr32 := Kd.F_cut (m := (t532 : Int).toNat) (c := co33) hC32 (by omega) hroom32
            obtain ⟨A32, hA32⟩ : ∃ A1, A1 = (if co33 = (t532 : Int).toNat then Ao33 else (Ao33 : Option Addr).map (·.add ((t532 : Int).toNat * 8))) := ⟨_, rfl⟩
            obtain ⟨c32, hc32⟩ : ∃ c1, c1 = co33 - (t532 : Int).toNat := ⟨_, rfl⟩
            have hy32 : y551.length = x5_1.length - (t532 : Int).toNat := (by rw [Ny551.out, List.length_drop] <;> omega)
            rw [show (x5_1).drop (t532 : Int).toNat = y551 from Ny551.out.symm] at hr32
            replace hr32 : Kd.F k50 _ _ A32 y551.length y551 := (by rw [hA32]; exact hr32)
            rw [← hy32, ← hA32, ← hc32] at hcut32
            have HO555 := Aside0.mk (show Kd.V k50 50 _ w.heap.size _ (.slice A32 y551.length c32) y551 from Kd.V_mk (by rw [hy32, hc32]; exact Nat.sub_le_sub_right hroom32 _) hr32)
            have HC555 := Aside0.mk (show y551.length ≤ c32 from by rw [hy32, hc32]; exact Nat.sub_le_sub_right hroom32 _)
            clear hr32 hC32 hroom32 hi032 hsz32 hc32
            have KY32 := Aside0.mk hy32
            have KA32 := Aside0.mk hA32
            clear hy32 hA32
            replace q32 := eq_true q32
            have q34 : (t532 : Int) ≤ ((x5_1.length : Int) : Int) := of_decide_eq_true (by first | (with_reducible assumption) | assumption)
            obtain ⟨i034, hi034, _, hsz34, _⟩ := info_parts info50
            have hroom34 : x5_1.length ≤ co33 := (Kd.N_reads' HO_5.out).2.1
            have hC34 : Kd.F k50 _ _ Ao33 x5_1.length x5_1 := (Kd.V_at (base := w.heap.size) (Kd.N_V HO_5.out)).2.2
            have hcut34 := cut_to (P := Try.prog) 44 50 .i64 Try.underlying44 hi034 Ao33 x5_1.length co33 t532 (of_decide_eq_true (by first | (with_reducible assumption) | assumption)) q34 hroom34
            have hr34 := Kd.F_take (m := (t532 : Int).toNat) hC34 (by omega)
            have hy34 : y559.length = (t532 : Int).toNat := (by rw [Ny559.out, List.length_take]; omega)
            rw [← Ny559.out] at hr34
            rw [← hy34] at hcut34
            have HO563 := Aside0.mk (show Kd.V k50 50 _ w.heap.size _ (.slice Ao33 y559.length co33) y559 from Kd.V_mk (by omega) hr34)
            have HC563 := Aside0.mk (show y559.length ≤ co33 from by omega)
            clear hr34 hC34 hroom34 hi034 hsz34
            have KY34 := Aside0.mk hy34
            clear hy34
            replace q34 := eq_true q34
            refine start_ (n := 10) (S := fun w' => True) (ds := []) #[false, false, false, false, false, false, false, false, false, false] (by kernel_rfl) rfl rfl trivial (fun hHeld => ?_); refine with_tabW erratumlaw06_OrderObjects.tab11 erratumlaw06_OrderObjects.bits11 (fun HT_ HW_ => ?_)
            generalize w30.drew = w31 at HO_5 HO550 HB HO555 HO563 hHeld ⊢
            refine pure_ (i := 0) (N := some 51) (v := ?_) (a' := ?_) #[true, false, false, false, false, false, false, false, false, false] rfl rfl (any_of HT_.out (by kernel_rfl)) (fun _ _ _ h => h) (Or.inl ⟨by rfl, ?_⟩) ?_ ?_
            rotate_left
            ·intro w'
             go_simp
             with_reducible rfl
            rotate_left
            ·simp only [Act.put, List.setIfInBounds_toArray, List.set_cons_zero, List.set_cons_succ, i64_w, i32_w]
             rfl
            refine pure_ (i := 1) (N := some 52) (v := ?_) (a' := ?_) #[true, true, false, false, false, false, false, false, false, false] rfl rfl (any_of HT_.out (by kernel_rfl)) (fun _ _ _ h => h) (Or.inl ⟨by rfl, ?_⟩) ?_ ?_
            rotate_left
            ·intro w'
             go_simp
             with_reducible rfl
            rotate_left
            ·simp only [Act.put, List.setIfInBounds_toArray, List.set_cons_zero, List.set_cons_succ, i64_w, i32_w]
             rfl
            refine pure_ (i := 2) (N := some 53) (v := ?_) (a' := ?_) #[true, true, true, false, false, false, false, false, false, false] rfl rfl (any_of HT_.out (by kernel_rfl)) (fun _ _ _ h => h) (Or.inl ⟨by rfl, ?_⟩) ?_ ?_
            rotate_left
            ·intro w'
             go_simp
             with_reducible rfl
            rotate_left
            ·simp only [Act.put, List.setIfInBounds_toArray, List.set_cons_zero, List.set_cons_succ, i64_w, i32_w]
             rfl
            refine pure_ (i := 3) (N := some 54) (v := ?_) (a' := ?_) #[true, true, true, true, false, false, false, false, false, false] rfl rfl (any_of HT_.out (by kernel_rfl)) (fun _ _ _ h => h) (Or.inl ⟨by rfl, ?_⟩) ?_ ?_
            rotate_left
            ·intro w'
             go_simp
             with_reducible rfl
            rotate_left
            ·simp only [Act.put, List.setIfInBounds_toArray, List.set_cons_zero, List.set_cons_succ, i64_w, i32_w]
             rfl
            refine pure_ (i := 5) (N := some 56) (v := ?_) (a' := ?_) #[true, true, true, true, false, true, false, false, false, false] rfl rfl (any_of HT_.out (by kernel_rfl)) (fun _ _ _ h => h) (Or.inl ⟨by rfl, ?_⟩) ?_ ?_
            rotate_left
            ·intro w'
             go_simp
             with_reducible rfl
            rotate_left
            ·simp only [Act.put, List.setIfInBounds_toArray, List.set_cons_zero, List.set_cons_succ, i64_w, i32_w]
             rfl
            refine pure_ (i := 6) (N := some 57) (v := ?_) (a' := ?_) #[true, true, true, true, false, true, true, false, false, false] rfl rfl (any_of HT_.out (by kernel_rfl)) (fun _ _ _ h => h) (Or.inl ⟨by rfl, ?_⟩) ?_ ?_
            rotate_left
            ·intro w'
             go_simp
             with_reducible rfl
            rotate_left
            ·simp only [Act.put, List.setIfInBounds_toArray, List.set_cons_zero, List.set_cons_succ, i64_w, i32_w]
             rfl
            refine pure_ (i := 7) (N := some 58) (v := ?_) (a' := ?_) #[true, true, true, true, false, true, true, true, false, false] rfl rfl (any_of HT_.out (by kernel_rfl)) (fun _ _ _ h => h) (Or.inl ⟨by rfl, ?_⟩) ?_ ?_
            rotate_left
            ·intro w'
             go_simp
             with_reducible rfl
            rotate_left
            ·simp only [Act.put, List.setIfInBounds_toArray, List.set_cons_zero, List.set_cons_succ, i64_w, i32_w]
             rfl
            refine one_ (i := 4) (N := some 55) #[true, true, true, true, true, true, true, true, false, false] rfl rfl (one_of HT_.out (by kernel_rfl)) (by decide) (fun K hK => ?_)
            refine Kd.N_append_rows_step k50 (w0 := w) w.heap.size (by rfl) (.tmp 51) (.tmp 54) 44 50 (.agg #[(.int .i64 0), (.bool false), (.bool false), (.slice none 0 0), (.int .i64 0), (.string ⟨#[]⟩), (.slice none 0 0), (.slice none 0 0)]) 120 rfl Try.underlying44 info50 rfl (by decide) (by omega) (.slice none 0 0) ([] : List (S50)) y551 _ _ _ (fun k_ => some k_ ≠ (v549 : Value).ownBlock) (fun k_ => ((fun k_ => some k_ ≠ (v549 : Value).ownBlock)) k_ ∧ some k_ ≠ (.slice none 0 0 : Value).ownBlock) rfl rfl ?aO ?aR (fun _ hk => hk) ?aF ?aB ?aS ?aL ?_
            (case aR => exact (by skip; exact Kd.V_F (Kd.V_mono (ok' := (fun k_ => ((fun k_ => some k_ ≠ (v549 : Value).ownBlock)) k_ ∧ some k_ ≠ (.slice none 0 0 : Value).ownBlock)) (HO555.out) (fun k_ hk => ⟨hk.2, (by simp [Value.ownBlock])⟩))))
            (case aB => exact (by repeat (first | (with_reducible first | exact HB.out | apply below_alloc | apply pw_below_drewN | apply below_drew1) | exact HB.out)))
            (case aF => exact (fun k_ hk => Kd.fresh' (Kd.R_lt (by (with_reducible repeat (first | apply Kd.R_alloc | apply Kd.R_drewN | apply Kd.R_drew)); exact HO550.out)) k_ hk))
            (case aO => exact ((Kd.N_nil _ _ _ _ (fun k_ => some k_ ≠ (v549 : Value).ownBlock))))
            (case aS => exact (below_size (by repeat (first | (with_reducible first | exact HB.out | apply below_alloc | apply pw_below_drewN | apply below_drew1) | exact HB.out))))
            (case aL => have := LMc18.out; omega)
            intro v557 w35 ho hb hg hat
            rw [← Ny556.out] at ho
            have n0_ := Aside0.mk (Kd.N_afterv (Kd.N_apart_nil (by (with_reducible repeat (first | apply Kd.N_alloc | apply Kd.N_drewN | apply Kd.N_drew)); exact HO_5.out)) hg hat)
            have n1_ := Aside0.mk (Kd.R_grown (by (with_reducible repeat (first | apply Kd.R_alloc | apply Kd.R_drewN | apply Kd.R_drew)); exact HO550.out) hg (fun _ _ => by simp [Value.ownBlock]))
            have n2_ := Aside0.mk (Kd.V_afterv (Kd.V_apart_nil (by (with_reducible repeat (first | apply Kd.V_alloc | apply Kd.V_drewN | apply Kd.V_drew)); exact HO555.out)) hg hat)
            have n3_ := Aside0.mk (Kd.V_afterv (Kd.V_apart_nil (by (with_reducible repeat (first | apply Kd.V_alloc | apply Kd.V_drewN | apply Kd.V_drew)); exact HO563.out)) hg hat)
            have n4_ := Aside0.mk (hb)
            have n5_ := Aside0.mk (ho)
            clear HO_5
            clear HO550
            clear HO555
            clear HO563
            clear HB
            have HO_5 := n0_
            have HO550 := n1_
            have HO555 := n2_
            have HO563 := n3_
            have HB := n4_
            have HO558 := n5_
            clear n0_ n1_ n2_ n3_ n4_ n5_
            clear ho hb hg hat
            refine hK.out _ _ trivial (fun hHeld => ?_)
            clear hK K
            refine norm_ (a' := ?_) ?_ ?_
            rotate_left
            ·show Act.put _ (some 55) _ = _
             simp only [Act.put, List.setIfInBounds_toArray, List.set_cons_zero, List.set_cons_succ, i64_w, i32_w]
             rfl
            refine one_ (i := 8) (N := some 59) #[true, true, true, true, true, true, true, true, true, false] rfl rfl (one_of HT_.out (by kernel_rfl)) (by decide) (fun K hK => ?_)
            refine Kd.N_append_rows_step k50 (w0 := w) w.heap.size (by rfl) (.tmp 55) (.tmp 58) 44 50 (.agg #[(.int .i64 0), (.bool false), (.bool false), (.slice none 0 0), (.int .i64 0), (.string ⟨#[]⟩), (.slice none 0 0), (.slice none 0 0)]) 120 rfl Try.underlying44 info50 rfl (by decide) (by omega) v557 y556 y559 _ _ _ (fun k_ => some k_ ≠ (v549 : Value).ownBlock) (fun k_ => ((fun k_ => some k_ ≠ (v549 : Value).ownBlock)) k_ ∧ some k_ ≠ (v557 : Value).ownBlock) rfl rfl ?aO ?aR (fun _ hk => hk) ?aF ?aB ?aS ?aL ?_
            (case aR => exact (by skip; exact Kd.V_F (Kd.V_mono (ok' := (fun k_ => ((fun k_ => some k_ ≠ (v549 : Value).ownBlock)) k_ ∧ some k_ ≠ (v557 : Value).ownBlock)) (HO563.out) (fun k_ hk => ⟨hk.1.2, hk.2⟩))))
            (case aB => exact (by repeat (first | (with_reducible first | exact HB.out | apply below_alloc | apply pw_below_drewN | apply below_drew1) | exact HB.out)))
            (case aF => exact (fun k_ hk => Kd.fresh' (Kd.R_lt (by (with_reducible repeat (first | apply Kd.R_alloc | apply Kd.R_drewN | apply Kd.R_drew)); exact HO550.out)) k_ hk))
            (case aO => exact (by (with_reducible repeat (first | apply Kd.N_alloc | apply Kd.N_drewN | apply Kd.N_drew)); exact HO558.out))
            (case aS => exact (below_size (by repeat (first | (with_reducible first | exact HB.out | apply below_alloc | apply pw_below_drewN | apply below_drew1) | exact HB.out))))
            (case aL => have := LMc21.out; omega)
            intro v565 w36 ho hb hg hat
            rw [← Ny564.out] at ho
            have n0_ := Aside0.mk (Kd.N_afterv (ok := (fun k_ => some k_ ≠ (v549 : Value).ownBlock)) (by (with_reducible repeat (first | apply Kd.N_alloc | apply Kd.N_drewN | apply Kd.N_drew)); exact Kd.N_mono HO_5.out (fun _ hk => ⟨hk.1.2, hk.2⟩)) hg hat)
            have n1_ := Aside0.mk (Kd.R_over' (by (with_reducible repeat (first | apply Kd.R_alloc | apply Kd.R_drewN | apply Kd.R_drew)); exact HO550.out) (Kd.N_typed (by (with_reducible repeat (first | apply Kd.N_alloc | apply Kd.N_drewN | apply Kd.N_drew)); exact HO558.out)) (by decide) hg)
            have n2_ := Aside0.mk (Kd.V_afterv (ok := (fun k_ => some k_ ≠ (v549 : Value).ownBlock)) (by (with_reducible repeat (first | apply Kd.V_alloc | apply Kd.V_drewN | apply Kd.V_drew)); exact Kd.V_mono HO555.out (fun _ hk => ⟨hk.1.2, hk.2⟩)) hg hat)
            have n3_ := Aside0.mk (Kd.V_afterv (ok := (fun k_ => some k_ ≠ (v549 : Value).ownBlock)) (by (with_reducible repeat (first | apply Kd.V_alloc | apply Kd.V_drewN | apply Kd.V_drew)); exact Kd.V_mono HO563.out (fun _ hk => ⟨hk.1.2, hk.2⟩)) hg hat)
            have n4_ := Aside0.mk (hb)
            have n5_ := Aside0.mk (ho)
            clear HO_5
            clear HO550
            clear HO555
            clear HO563
            clear HB
            clear HO558
            have HO_5 := n0_
            have HO550 := n1_
            have HO555 := n2_
            have HO563 := n3_
            have HB := n4_
            have HO566 := n5_
            clear n0_ n1_ n2_ n3_ n4_ n5_
            clear ho hb hg hat
            refine hK.out _ _ trivial (fun hHeld => ?_)
            clear hK K
            refine norm_ (a' := ?_) ?_ ?_
            rotate_left
            ·show Act.put _ (some 59) _ = _
             simp only [Act.put, List.setIfInBounds_toArray, List.set_cons_zero, List.set_cons_succ, i64_w, i32_w]
             rfl
            refine pure_ (i := 9) (N := some 6) (v := ?_) (a' := ?_) #[true, true, true, true, true, true, true, true, true, true] rfl rfl (any_of HT_.out (by kernel_rfl)) (fun _ _ _ h => h) (Or.inl ⟨by rfl, ?_⟩) ?_ ?_
            rotate_left
            ·intro w'
             go_simp
             with_reducible rfl
            rotate_left
            ·simp only [Act.put, List.setIfInBounds_toArray, List.set_cons_zero, List.set_cons_succ, i64_w, i32_w]
             rfl
            refine done_ (done_of HT_.out (by kernel_rfl)) ?_
            go_upto_region 15 with (first | ((with_reducible refine gate_callee (f := 23) rfl ?_); refine goesL_ (some 63) rfl rfl Try.func23 (by kernel_rfl) rfl #[.slice A0 l0.length c0, .slice Ao33 x5_1.length co33] rfl (by (try simp only [List.map_toArray, List.map_cons, List.map_nil]); first | done | rfl | (simp only [List.length_drop, List.length_take]; rfl)) ?_; (with_reducible refine (order_Object.calls k1 _ _ l0 (fun k_ => (some k_ ≠ (v549 : Value).ownBlock ∧ some k_ ≠ (v565 : Value).ownBlock)) _ _ x5_1 t567 t568 t569 t570 t573 t574 t575 t578 t581 t582 _ ?side1 ?side2 ?side3 A22.out).mono ?_); (case side1 => repeat (first | exact (Kd.C_below HR0.out HB.out) | (with_reducible refine Kd.C_alloc ?_ _) | (with_reducible refine Kd.C_drewN ?_ _) | (with_reducible refine Kd.C_drew ?_))); (case side2 => exact HC0.out); (case side3 => exact Kd.N_V (HO_5.out)); rintro e w37 ⟨v571, v576, v579, rfl, ho0, ho1, ho2, hb⟩; refine ⟨_, rfl, ?_⟩; have n0_ := Aside0.mk (Kd.N_mono (Kd.N_told (Kd.N_told (Kd.N_told (Kd.N_old (by (with_reducible repeat (first | apply Kd.N_alloc | apply Kd.N_drewN | apply Kd.N_drew)); exact HO_5.out) hb) (Kd.R_base ho0)) (Kd.R_base ho1)) (Kd.N_base ho2)) (fun _ h_ => h_.1)); have n1_ := Aside0.mk (Kd.R_elder' (by (with_reducible repeat (first | apply Kd.R_alloc | apply Kd.R_drewN | apply Kd.R_drew)); exact HO550.out) (Kd.R_base ho1) hb); have n2_ := Aside0.mk (Kd.V_mono (Kd.V_told (Kd.V_told (Kd.V_told (Kd.V_old (by (with_reducible repeat (first | apply Kd.V_alloc | apply Kd.V_drewN | apply Kd.V_drew)); exact HO555.out) hb) (Kd.R_base ho0)) (Kd.R_base ho1)) (Kd.N_base ho2)) (fun _ h_ => h_.1)); have n3_ := Aside0.mk (Kd.V_mono (Kd.V_told (Kd.V_told (Kd.V_told (Kd.V_old (by (with_reducible repeat (first | apply Kd.V_alloc | apply Kd.V_drewN | apply Kd.V_drew)); exact HO563.out) hb) (Kd.R_base ho0)) (Kd.R_base ho1)) (Kd.N_base ho2)) (fun _ h_ => h_.1)); have n4_ := Aside0.mk (Kd.N_mono (Kd.N_told (Kd.N_told (Kd.N_told (Kd.N_old (by (with_reducible repeat (first | apply Kd.N_alloc | apply Kd.N_drewN | apply Kd.N_drew)); exact HO566.out) hb) (Kd.R_base ho0)) (Kd.R_base ho1)) (Kd.N_base ho2)) (fun _ h_ => h_.1)); have n5_ := Aside0.mk (Kd.R_lower (Kd.R_mono (ok' := fun k_ => True) ho0 (fun _ hk_ => trivial)) (below_size (by repeat (first | (with_reducible first | exact HB.out | apply below_alloc | apply pw_below_drewN | apply below_drew1) | exact HB.out)))); have n6_ := Aside0.mk (Kd.R_lower (Kd.R_new' (Kd.R_mono (ok' := fun k_ => True) ho1 (fun _ hk_ => trivial)) (Kd.R_lt (by (with_reducible repeat (first | apply Kd.R_alloc | apply Kd.R_drewN | apply Kd.R_drew)); exact HO550.out))) (below_size (by repeat (first | (with_reducible first | exact HB.out | apply below_alloc | apply pw_below_drewN | apply below_drew1) | exact HB.out)))); have n7_ := Aside0.mk (Kd.N_lower (Kd.N_mono (ok' := fun k_ => some k_ ≠ (v571 : Value).ownBlock ∧ some k_ ≠ (v576 : Value).ownBlock ∧ some k_ ≠ (v549 : Value).ownBlock ∧ some k_ ≠ (v565 : Value).ownBlock) ho2 (fun k_ hk_ => ⟨hk_.2.1, hk_.2.2, Or.elim hk_.1 (fun hs_ => hs_.1) (fun hn_ => (Kd.fresh' (Kd.R_lt (by (with_reducible repeat (first | apply Kd.R_alloc | apply Kd.R_drewN | apply Kd.R_drew)); exact HO550.out)) k_ hn_)), Or.elim hk_.1 (fun hs_ => hs_.2) (fun hn_ => (Kd.fresh' (Kd.N_lt (by (with_reducible repeat (first | apply Kd.N_alloc | apply Kd.N_drewN | apply Kd.N_drew)); exact HO566.out)) k_ hn_))⟩)) (below_size (by repeat (first | (with_reducible first | exact HB.out | apply below_alloc | apply pw_below_drewN | apply below_drew1) | exact HB.out)))); have n8_ := Aside0.mk (below_step (by repeat (first | (with_reducible first | exact HB.out | apply below_alloc | apply pw_below_drewN | apply below_drew1) | exact HB.out)) hb); clear HO_5; clear HO550; clear HO555; clear HO563; clear HO566; clear HB; have HO_5 := n0_; have HO550 := n1_; have HO555 := n2_; have HO563 := n3_; have HO566 := n4_; have HO572 := n5_; have HO577 := n6_; have HO580 := n7_; have HB := n8_; clear n0_ n1_ n2_ n3_ n4_ n5_ n6_ n7_ n8_; (try clear hb); (try clear hb2); (try clear hk); (try clear hi); (try clear ho0); (try clear ho1); (try clear ho2)) | ((with_reducible refine gate_dst (N := 10) rfl ?_); (try (refine gate_guard (by rfl) ?_; dsimp only)); refine box_event ?hg (N := 10) ?hd (cs := #[.int .i64 0, .bool false, .bool false, .slice none 0 0, .int .i64 0, .string (⟨#[]⟩ : ByteArray), .slice none 0 0, .slice none 0 0]) (t := 50) ?hr ?_; (case hd => rfl); (case hg => rfl); (case hr => first | (go_simp; done) | (go_simp; rfl)); intro gb583 hg w38 hbox hb; have n0_ := Aside0.mk (Kd.N_below (Kd.N_elderB (by (with_reducible repeat (first | apply Kd.N_alloc | apply Kd.N_drewN | apply Kd.N_drew)); exact HO_5.out) gb583 (Nat.le_of_eq hg.symm)) hb); have n1_ := Aside0.mk (Kd.R_below (by (with_reducible repeat (first | apply Kd.R_alloc | apply Kd.R_drewN | apply Kd.R_drew)); exact HO550.out) hb); have n2_ := Aside0.mk (Kd.V_below (Kd.V_elderB (by (with_reducible repeat (first | apply Kd.V_alloc | apply Kd.V_drewN | apply Kd.V_drew)); exact HO555.out) gb583 (Nat.le_of_eq hg.symm)) hb); have n3_ := Aside0.mk (Kd.V_below (Kd.V_elderB (by (with_reducible repeat (first | apply Kd.V_alloc | apply Kd.V_drewN | apply Kd.V_drew)); exact HO563.out) gb583 (Nat.le_of_eq hg.symm)) hb); have n4_ := Aside0.mk (Kd.N_below (Kd.N_elderB (by (with_reducible repeat (first | apply Kd.N_alloc | apply Kd.N_drewN | apply Kd.N_drew)); exact HO566.out) gb583 (Nat.le_of_eq hg.symm)) hb); have n5_ := Aside0.mk (Kd.R_below (by (with_reducible repeat (first | apply Kd.R_alloc | apply Kd.R_drewN | apply Kd.R_drew)); exact HO572.out) hb); have n6_ := Aside0.mk (Kd.R_below (by (with_reducible repeat (first | apply Kd.R_alloc | apply Kd.R_drewN | apply Kd.R_drew)); exact HO577.out) hb); have n7_ := Aside0.mk (Kd.N_below (Kd.N_elderB (by (with_reducible repeat (first | apply Kd.N_alloc | apply Kd.N_drewN | apply Kd.N_drew)); exact HO580.out) gb583 (Nat.le_of_eq hg.symm)) hb); have n8_ := Aside0.mk (below_step (by repeat (first | (with_reducible first | exact HB.out | apply below_alloc | apply pw_below_drewN | apply below_drew1) | exact HB.out)) hb); have n9_ := Aside0.mk (hbox); have n10_ := Aside0.mk ((by rw [hg]; exact (below_size (by repeat (first | (with_reducible first | exact HB.out | apply below_alloc | apply pw_below_drewN | apply below_drew1) | exact HB.out))) : w.heap.size ≤ gb583)); have n11_ := Aside0.mk ((by rw [hg]; exact (below_size (by repeat (first | (with_reducible first | exact HB.out | apply below_alloc | apply pw_below_drewN | apply below_drew1) | exact HB.out))) : w.heap.size ≤ gb583)); clear HO_5; clear HO550; clear HO555; clear HO563; clear HO566; clear HO572; clear HO577; clear HO580; clear HB; have HO_5 := n0_; have HO550 := n1_; have HO555 := n2_; have HO563 := n3_; have HO566 := n4_; have HO572 := n5_; have HO577 := n6_; have HO580 := n7_; have HB := n8_; have BK583 := n9_; have GW583 := n10_; have GE583 := n11_; clear n0_ n1_ n2_ n3_ n4_ n5_ n6_ n7_ n8_ n9_ n10_ n11_; clear hb hbox hg; have hcz39_0 : w38.cell? ⟨gb583, 0, none⟩ = some (.int .i64 0) := (blk_cell BK583.out 0).trans rfl; have hcz39_1 : w38.cell? ⟨gb583, 1, none⟩ = some (.bool false) := (blk_cell BK583.out 1).trans rfl; have hcz39_2 : w38.cell? ⟨gb583, 2, none⟩ = some (.bool false) := (blk_cell BK583.out 2).trans rfl; have hcz39_3 : w38.cell? ⟨gb583, 3, none⟩ = some (.slice none 0 0) := (blk_cell BK583.out 3).trans rfl; have hcz39_4 : w38.cell? ⟨gb583, 4, none⟩ = some (.int .i64 0) := (blk_cell BK583.out 4).trans rfl; have hcz39_5 : w38.cell? ⟨gb583, 5, none⟩ = some (.string (⟨#[]⟩ : ByteArray)) := (blk_cell BK583.out 5).trans rfl; have hcz39_6 : w38.cell? ⟨gb583, 6, none⟩ = some (.slice none 0 0) := (blk_cell BK583.out 6).trans rfl; have hcz39_7 : w38.cell? ⟨gb583, 7, none⟩ = some (.slice none 0 0) := (blk_cell BK583.out 7).trans rfl; have hfz39_0 := blk_frozen BK583.out 0; have hfz39_1 := blk_frozen BK583.out 1; have hfz39_2 := blk_frozen BK583.out 2; have hfz39_3 := blk_frozen BK583.out 3; have hfz39_4 := blk_frozen BK583.out 4; have hfz39_5 := blk_frozen BK583.out 5; have hfz39_6 := blk_frozen BK583.out 6; have hfz39_7 := blk_frozen BK583.out 7; obtain ⟨Ao40, co40, eo40⟩ := Kd.R_slice HO572.out; subst eo40; obtain ⟨Ao41, co41, eo41⟩ := Kd.R_slice HO577.out; subst eo41; obtain ⟨Ao42, co42, eo42⟩ := Kd.N_slice HO580.out; subst eo42) | ((with_reducible refine gate_store (t := 50) (p := 10) rfl ?_); refine store_event (t := 50) (p := 10) (v := ?vo_w43) (w1 := ((((((((w38.setCell ⟨gb583, 0, none⟩ (.int .i64 t567)).setCell ⟨gb583, 1, none⟩ (.bool t568)).setCell ⟨gb583, 2, none⟩ (.bool t569)).setCell ⟨gb583, 3, none⟩ (.slice Ao40 t570.length co40)).setCell ⟨gb583, 4, none⟩ (.int .i64 t573)).setCell ⟨gb583, 5, none⟩ (.string t574)).setCell ⟨gb583, 6, none⟩ (.slice Ao41 t575.length co41)).setCell ⟨gb583, 7, none⟩ (.slice Ao42 t578.length co42))) ?hg ?ho ?hn ?hr ?_; (case ho => rfl); (case hg => rfl); (case hn => rfl); (case hr => first | (go_simp; done) | (go_simp; rfl)); intro w43 hw; have n0_ : Aside0 (Kd.N k50 50 w43 w.heap.size (fun k_ => some k_ ≠ (v549 : Value).ownBlock ∧ some k_ ≠ (v565 : Value).ownBlock ∧ some k_ ≠ (.slice Ao40 t570.length co40 : Value).ownBlock ∧ some k_ ≠ (.slice Ao41 t575.length co41 : Value).ownBlock ∧ some k_ ≠ (.slice Ao42 t578.length co42 : Value).ownBlock ∧ k_ ≠ gb583) (.slice Ao33 x5_1.length co33) x5_1) := ⟨(by rw [hw]; exact (by (with_reducible repeat (first | apply Kd.N_alloc | apply Kd.N_drewN | apply Kd.N_drew)); exact Kd.N_mono (Kd.N_far (p := ⟨gb583, 7, none⟩) (Kd.N_far (p := ⟨gb583, 6, none⟩) (Kd.N_far (p := ⟨gb583, 5, none⟩) (Kd.N_far (p := ⟨gb583, 4, none⟩) (Kd.N_far (p := ⟨gb583, 3, none⟩) (Kd.N_far (p := ⟨gb583, 2, none⟩) (Kd.N_far (p := ⟨gb583, 1, none⟩) (Kd.N_far (p := ⟨gb583, 0, none⟩) (Kd.N_mono HO_5.out (fun k_ hk => (⟨hk, hk.2⟩ : _ ∧ k_ ≠ gb583))) (fun _ hk => hk.2) (.int .i64 t567)) (fun _ hk => hk.2) (.bool t568)) (fun _ hk => hk.2) (.bool t569)) (fun _ hk => hk.2) (.slice Ao40 t570.length co40)) (fun _ hk => hk.2) (.int .i64 t573)) (fun _ hk => hk.2) (.string t574)) (fun _ hk => hk.2) (.slice Ao41 t575.length co41)) (fun _ hk => hk.2) (.slice Ao42 t578.length co42)) (fun _ hk => ⟨hk.1.1.1.1.1.1, ⟨hk.1.1.1.1.1.2, ⟨hk.1.1.1.1.2, ⟨hk.1.1.1.2, ⟨hk.1.1.2, hk.1.2⟩⟩⟩⟩⟩)))⟩; have n1_ : Aside0 (Kd.R Kd.string 9 w43 w.heap.size (fun k_ => some k_ ≠ (.slice Ao41 t575.length co41 : Value).ownBlock) v549 y548) := ⟨(by rw [hw]; exact (by (with_reducible repeat (first | apply Kd.R_alloc | apply Kd.R_drewN | apply Kd.R_drew)); exact Kd.R_mono (Kd.R_far (p := ⟨gb583, 7, none⟩) (Kd.R_far (p := ⟨gb583, 6, none⟩) (Kd.R_far (p := ⟨gb583, 5, none⟩) (Kd.R_far (p := ⟨gb583, 4, none⟩) (Kd.R_far (p := ⟨gb583, 3, none⟩) (Kd.R_far (p := ⟨gb583, 2, none⟩) (Kd.R_far (p := ⟨gb583, 1, none⟩) (Kd.R_far (p := ⟨gb583, 0, none⟩) (Kd.R_types HO550.out BK583.out (by decide)) (fun _ hk => hk.2) (.int .i64 t567)) (fun _ hk => hk.2) (.bool t568)) (fun _ hk => hk.2) (.bool t569)) (fun _ hk => hk.2) (.slice Ao40 t570.length co40)) (fun _ hk => hk.2) (.int .i64 t573)) (fun _ hk => hk.2) (.string t574)) (fun _ hk => hk.2) (.slice Ao41 t575.length co41)) (fun _ hk => hk.2) (.slice Ao42 t578.length co42)) (fun _ hk => hk.1.2)))⟩; have n2_ : Aside0 (Kd.V k50 50 w43 w.heap.size (fun k_ => some k_ ≠ (v549 : Value).ownBlock ∧ some k_ ≠ (v565 : Value).ownBlock ∧ some k_ ≠ (.slice Ao40 t570.length co40 : Value).ownBlock ∧ some k_ ≠ (.slice Ao41 t575.length co41 : Value).ownBlock ∧ some k_ ≠ (.slice Ao42 t578.length co42 : Value).ownBlock ∧ k_ ≠ gb583) (.slice A32 y551.length c32) y551) := ⟨(by rw [hw]; exact (by (with_reducible repeat (first | apply Kd.V_alloc | apply Kd.V_drewN | apply Kd.V_drew)); exact Kd.V_mono (Kd.V_far (p := ⟨gb583, 7, none⟩) (Kd.V_far (p := ⟨gb583, 6, none⟩) (Kd.V_far (p := ⟨gb583, 5, none⟩) (Kd.V_far (p := ⟨gb583, 4, none⟩) (Kd.V_far (p := ⟨gb583, 3, none⟩) (Kd.V_far (p := ⟨gb583, 2, none⟩) (Kd.V_far (p := ⟨gb583, 1, none⟩) (Kd.V_far (p := ⟨gb583, 0, none⟩) (Kd.V_mono HO555.out (fun k_ hk => (⟨hk, hk.2⟩ : _ ∧ k_ ≠ gb583))) (fun _ hk => hk.2) (.int .i64 t567)) (fun _ hk => hk.2) (.bool t568)) (fun _ hk => hk.2) (.bool t569)) (fun _ hk => hk.2) (.slice Ao40 t570.length co40)) (fun _ hk => hk.2) (.int .i64 t573)) (fun _ hk => hk.2) (.string t574)) (fun _ hk => hk.2) (.slice Ao41 t575.length co41)) (fun _ hk => hk.2) (.slice Ao42 t578.length co42)) (fun _ hk => ⟨hk.1.1.1.1.1.1, ⟨hk.1.1.1.1.1.2, ⟨hk.1.1.1.1.2, ⟨hk.1.1.1.2, ⟨hk.1.1.2, hk.1.2⟩⟩⟩⟩⟩)))⟩; have n3_ : Aside0 (Kd.V k50 50 w43 w.heap.size (fun k_ => some k_ ≠ (v549 : Value).ownBlock ∧ some k_ ≠ (v565 : Value).ownBlock ∧ some k_ ≠ (.slice Ao40 t570.length co40 : Value).ownBlock ∧ some k_ ≠ (.slice Ao41 t575.length co41 : Value).ownBlock ∧ some k_ ≠ (.slice Ao42 t578.length co42 : Value).ownBlock ∧ k_ ≠ gb583) (.slice Ao33 y559.length co33) y559) := ⟨(by rw [hw]; exact (by (with_reducible repeat (first | apply Kd.V_alloc | apply Kd.V_drewN | apply Kd.V_drew)); exact Kd.V_mono (Kd.V_far (p := ⟨gb583, 7, none⟩) (Kd.V_far (p := ⟨gb583, 6, none⟩) (Kd.V_far (p := ⟨gb583, 5, none⟩) (Kd.V_far (p := ⟨gb583, 4, none⟩) (Kd.V_far (p := ⟨gb583, 3, none⟩) (Kd.V_far (p := ⟨gb583, 2, none⟩) (Kd.V_far (p := ⟨gb583, 1, none⟩) (Kd.V_far (p := ⟨gb583, 0, none⟩) (Kd.V_mono HO563.out (fun k_ hk => (⟨hk, hk.2⟩ : _ ∧ k_ ≠ gb583))) (fun _ hk => hk.2) (.int .i64 t567)) (fun _ hk => hk.2) (.bool t568)) (fun _ hk => hk.2) (.bool t569)) (fun _ hk => hk.2) (.slice Ao40 t570.length co40)) (fun _ hk => hk.2) (.int .i64 t573)) (fun _ hk => hk.2) (.string t574)) (fun _ hk => hk.2) (.slice Ao41 t575.length co41)) (fun _ hk => hk.2) (.slice Ao42 t578.length co42)) (fun _ hk => ⟨hk.1.1.1.1.1.1, ⟨hk.1.1.1.1.1.2, ⟨hk.1.1.1.1.2, ⟨hk.1.1.1.2, ⟨hk.1.1.2, hk.1.2⟩⟩⟩⟩⟩)))⟩; have n4_ : Aside0 (Kd.N k50 50 w43 w.heap.size (fun k_ => some k_ ≠ (v549 : Value).ownBlock ∧ some k_ ≠ (.slice Ao40 t570.length co40 : Value).ownBlock ∧ some k_ ≠ (.slice Ao41 t575.length co41 : Value).ownBlock ∧ some k_ ≠ (.slice Ao42 t578.length co42 : Value).ownBlock ∧ k_ ≠ gb583) v565 y564) := ⟨(by rw [hw]; exact (by (with_reducible repeat (first | apply Kd.N_alloc | apply Kd.N_drewN | apply Kd.N_drew)); exact Kd.N_mono (Kd.N_far (p := ⟨gb583, 7, none⟩) (Kd.N_far (p := ⟨gb583, 6, none⟩) (Kd.N_far (p := ⟨gb583, 5, none⟩) (Kd.N_far (p := ⟨gb583, 4, none⟩) (Kd.N_far (p := ⟨gb583, 3, none⟩) (Kd.N_far (p := ⟨gb583, 2, none⟩) (Kd.N_far (p := ⟨gb583, 1, none⟩) (Kd.N_far (p := ⟨gb583, 0, none⟩) (Kd.N_mono HO566.out (fun k_ hk => (⟨hk, hk.2⟩ : _ ∧ k_ ≠ gb583))) (fun _ hk => hk.2) (.int .i64 t567)) (fun _ hk => hk.2) (.bool t568)) (fun _ hk => hk.2) (.bool t569)) (fun _ hk => hk.2) (.slice Ao40 t570.length co40)) (fun _ hk => hk.2) (.int .i64 t573)) (fun _ hk => hk.2) (.string t574)) (fun _ hk => hk.2) (.slice Ao41 t575.length co41)) (fun _ hk => hk.2) (.slice Ao42 t578.length co42)) (fun _ hk => ⟨hk.1.1.1.1.1, ⟨hk.1.1.1.1.2, ⟨hk.1.1.1.2, ⟨hk.1.1.2, hk.1.2⟩⟩⟩⟩)))⟩; have n5_ : Aside0 (Kd.R (Kd.int .u32) 78 w43 w.heap.size (fun _ => True) (.slice Ao40 t570.length co40) t570) := ⟨(by rw [hw]; exact (by (with_reducible repeat (first | apply Kd.R_alloc | apply Kd.R_drewN | apply Kd.R_drew)); exact Kd.R_mono (Kd.R_far (p := ⟨gb583, 7, none⟩) (Kd.R_far (p := ⟨gb583, 6, none⟩) (Kd.R_far (p := ⟨gb583, 5, none⟩) (Kd.R_far (p := ⟨gb583, 4, none⟩) (Kd.R_far (p := ⟨gb583, 3, none⟩) (Kd.R_far (p := ⟨gb583, 2, none⟩) (Kd.R_far (p := ⟨gb583, 1, none⟩) (Kd.R_far (p := ⟨gb583, 0, none⟩) (Kd.R_types HO572.out BK583.out (by decide)) (fun _ hk => hk.2) (.int .i64 t567)) (fun _ hk => hk.2) (.bool t568)) (fun _ hk => hk.2) (.bool t569)) (fun _ hk => hk.2) (.slice Ao40 t570.length co40)) (fun _ hk => hk.2) (.int .i64 t573)) (fun _ hk => hk.2) (.string t574)) (fun _ hk => hk.2) (.slice Ao41 t575.length co41)) (fun _ hk => hk.2) (.slice Ao42 t578.length co42)) (fun _ hk => trivial)))⟩; have n6_ : Aside0 (Kd.R Kd.string 9 w43 w.heap.size (fun k_ => some k_ ≠ (v549 : Value).ownBlock) (.slice Ao41 t575.length co41) t575) := ⟨(by rw [hw]; exact (by (with_reducible repeat (first | apply Kd.R_alloc | apply Kd.R_drewN | apply Kd.R_drew)); exact Kd.R_mono (Kd.R_far (p := ⟨gb583, 7, none⟩) (Kd.R_far (p := ⟨gb583, 6, none⟩) (Kd.R_far (p := ⟨gb583, 5, none⟩) (Kd.R_far (p := ⟨gb583, 4, none⟩) (Kd.R_far (p := ⟨gb583, 3, none⟩) (Kd.R_far (p := ⟨gb583, 2, none⟩) (Kd.R_far (p := ⟨gb583, 1, none⟩) (Kd.R_far (p := ⟨gb583, 0, none⟩) (Kd.R_types HO577.out BK583.out (by decide)) (fun _ hk => hk.2) (.int .i64 t567)) (fun _ hk => hk.2) (.bool t568)) (fun _ hk => hk.2) (.bool t569)) (fun _ hk => hk.2) (.slice Ao40 t570.length co40)) (fun _ hk => hk.2) (.int .i64 t573)) (fun _ hk => hk.2) (.string t574)) (fun _ hk => hk.2) (.slice Ao41 t575.length co41)) (fun _ hk => hk.2) (.slice Ao42 t578.length co42)) (fun _ hk => hk.1.2)))⟩; have n7_ : Aside0 (Kd.N k50 50 w43 w.heap.size (fun k_ => some k_ ≠ (v549 : Value).ownBlock ∧ some k_ ≠ (v565 : Value).ownBlock ∧ some k_ ≠ (.slice Ao40 t570.length co40 : Value).ownBlock ∧ some k_ ≠ (.slice Ao41 t575.length co41 : Value).ownBlock ∧ k_ ≠ gb583) (.slice Ao42 t578.length co42) t578) := ⟨(by rw [hw]; exact (by (with_reducible repeat (first | apply Kd.N_alloc | apply Kd.N_drewN | apply Kd.N_drew)); exact Kd.N_mono (Kd.N_far (p := ⟨gb583, 7, none⟩) (Kd.N_far (p := ⟨gb583, 6, none⟩) (Kd.N_far (p := ⟨gb583, 5, none⟩) (Kd.N_far (p := ⟨gb583, 4, none⟩) (Kd.N_far (p := ⟨gb583, 3, none⟩) (Kd.N_far (p := ⟨gb583, 2, none⟩) (Kd.N_far (p := ⟨gb583, 1, none⟩) (Kd.N_far (p := ⟨gb583, 0, none⟩) (Kd.N_mono HO580.out (fun k_ hk => (⟨hk, hk.2⟩ : _ ∧ k_ ≠ gb583))) (fun _ hk => hk.2) (.int .i64 t567)) (fun _ hk => hk.2) (.bool t568)) (fun _ hk => hk.2) (.bool t569)) (fun _ hk => hk.2) (.slice Ao40 t570.length co40)) (fun _ hk => hk.2) (.int .i64 t573)) (fun _ hk => hk.2) (.string t574)) (fun _ hk => hk.2) (.slice Ao41 t575.length co41)) (fun _ hk => hk.2) (.slice Ao42 t578.length co42)) (fun _ hk => ⟨hk.1.1.2.2.1, ⟨hk.1.1.2.2.2, ⟨hk.1.1.1, ⟨hk.1.1.2.1, hk.1.2⟩⟩⟩⟩)))⟩; have n8_ : Aside0 (w43.heap[gb583]? = some (.cells #[.int .i64 t567, .bool t568, .bool t569, .slice Ao40 t570.length co40, .int .i64 t573, .string t574, .slice Ao41 t575.length co41, .slice Ao42 t578.length co42] 50 (0, 0))) := ⟨(by rw [hw]; exact (by (with_reducible repeat (first | refine blk_drewN ?_ _ | refine blk_drew ?_ | refine blk_alloc ?_ _)); refine blk_put (cs := #[.int .i64 t567, .bool t568, .bool t569, .slice Ao40 t570.length co40, .int .i64 t573, .string t574, .slice Ao41 t575.length co41, .slice none 0 0]) ?_ 7 _ rfl; (with_reducible repeat (first | refine blk_drewN ?_ _ | refine blk_drew ?_ | refine blk_alloc ?_ _)); refine blk_put (cs := #[.int .i64 t567, .bool t568, .bool t569, .slice Ao40 t570.length co40, .int .i64 t573, .string t574, .slice none 0 0, .slice none 0 0]) ?_ 6 _ rfl; (with_reducible repeat (first | refine blk_drewN ?_ _ | refine blk_drew ?_ | refine blk_alloc ?_ _)); refine blk_put (cs := #[.int .i64 t567, .bool t568, .bool t569, .slice Ao40 t570.length co40, .int .i64 t573, .string (⟨#[]⟩ : ByteArray), .slice none 0 0, .slice none 0 0]) ?_ 5 _ rfl; (with_reducible repeat (first | refine blk_drewN ?_ _ | refine blk_drew ?_ | refine blk_alloc ?_ _)); refine blk_put (cs := #[.int .i64 t567, .bool t568, .bool t569, .slice Ao40 t570.length co40, .int .i64 0, .string (⟨#[]⟩ : ByteArray), .slice none 0 0, .slice none 0 0]) ?_ 4 _ rfl; (with_reducible repeat (first | refine blk_drewN ?_ _ | refine blk_drew ?_ | refine blk_alloc ?_ _)); refine blk_put (cs := #[.int .i64 t567, .bool t568, .bool t569, .slice none 0 0, .int .i64 0, .string (⟨#[]⟩ : ByteArray), .slice none 0 0, .slice none 0 0]) ?_ 3 _ rfl; (with_reducible repeat (first | refine blk_drewN ?_ _ | refine blk_drew ?_ | refine blk_alloc ?_ _)); refine blk_put (cs := #[.int .i64 t567, .bool t568, .bool false, .slice none 0 0, .int .i64 0, .string (⟨#[]⟩ : ByteArray), .slice none 0 0, .slice none 0 0]) ?_ 2 _ rfl; (with_reducible repeat (first | refine blk_drewN ?_ _ | refine blk_drew ?_ | refine blk_alloc ?_ _)); refine blk_put (cs := #[.int .i64 t567, .bool false, .bool false, .slice none 0 0, .int .i64 0, .string (⟨#[]⟩ : ByteArray), .slice none 0 0, .slice none 0 0]) ?_ 1 _ rfl; (with_reducible repeat (first | refine blk_drewN ?_ _ | refine blk_drew ?_ | refine blk_alloc ?_ _)); refine blk_put (cs := #[.int .i64 0, .bool false, .bool false, .slice none 0 0, .int .i64 0, .string (⟨#[]⟩ : ByteArray), .slice none 0 0, .slice none 0 0]) ?_ 0 _ rfl; (with_reducible repeat (first | refine blk_drewN ?_ _ | refine blk_drew ?_ | refine blk_alloc ?_ _)); exact BK583.out))⟩; have n9_ : Aside0 (Below w.heap.size w w43) := ⟨(by rw [hw]; exact (by repeat (first | (with_reducible first | exact HB.out | apply below_alloc | apply pw_below_drewN | apply below_drew1 | refine below_set ?_ GE583.out) | exact HB.out)))⟩; clear hw; clear HO_5; clear HO550; clear HO555; clear HO563; clear HO566; clear HO572; clear HO577; clear HO580; clear BK583; clear HB; have HO_5 := n0_; have HO550 := n1_; have HO555 := n2_; have HO563 := n3_; have HO566 := n4_; have HO572 := n5_; have HO577 := n6_; have HO580 := n7_; have BK583 := n8_; have HB := n9_; clear n0_ n1_ n2_ n3_ n4_ n5_ n6_ n7_ n8_ n9_; obtain ⟨Ao44, co44, eo44⟩ := Kd.R_slice HO550.out; subst eo44; obtain ⟨Ao45, co45, eo45⟩ := Kd.N_slice HO566.out; subst eo45) | ((with_reducible refine gate_callee (f := 23) rfl ?_); refine goesL_ (some 70) rfl rfl Try.func23 (by kernel_rfl) rfl #[.slice Ao44 y548.length co44, .slice Ao45 y564.length co45] rfl (by (try simp only [List.map_toArray, List.map_cons, List.map_nil]); first | done | rfl | (simp only [List.length_drop, List.length_take]; rfl)) ?_; (with_reducible refine (order_Object.calls k1 _ _ y548 (fun k_ => (some k_ ≠ (.slice Ao44 y548.length co44 : Value).ownBlock ∧ (some k_ ≠ (.slice Ao40 t570.length co40 : Value).ownBlock ∧ (some k_ ≠ (.slice Ao41 t575.length co41 : Value).ownBlock ∧ (some k_ ≠ (.slice Ao42 t578.length co42 : Value).ownBlock ∧ k_ ≠ gb583))))) _ _ y564 t584 t585 t586 t587 t590 t591 t592 t595 t598 t599 _ ?side1 ?side2 ?side3 A23.out).mono ?_); (case side1 => repeat (first | exact (Kd.R_reads' HO550.out).2.2 | (with_reducible refine Kd.C_alloc ?_ _) | (with_reducible refine Kd.C_drewN ?_ _) | (with_reducible refine Kd.C_drew ?_))); (case side2 => exact (Kd.R_reads' HO550.out).2.1); (case side3 => exact Kd.N_V (HO566.out)); rintro e w46 ⟨v588, v593, v596, rfl, ho0, ho1, ho2, hb⟩; refine ⟨_, rfl, ?_⟩; have n0_ := Aside0.mk (Kd.N_mono (Kd.N_told (Kd.N_told (Kd.N_told (Kd.N_old (by (with_reducible repeat (first | apply Kd.N_alloc | apply Kd.N_drewN | apply Kd.N_drew)); exact HO_5.out) hb) (Kd.R_base ho0)) (Kd.R_base ho1)) (Kd.N_base ho2)) (fun _ h_ => h_.1)); have n1_ := Aside0.mk (Kd.R_elder' (by (with_reducible repeat (first | apply Kd.R_alloc | apply Kd.R_drewN | apply Kd.R_drew)); exact HO550.out) (Kd.R_base ho1) hb); have n2_ := Aside0.mk (Kd.V_mono (Kd.V_told (Kd.V_told (Kd.V_told (Kd.V_old (by (with_reducible repeat (first | apply Kd.V_alloc | apply Kd.V_drewN | apply Kd.V_drew)); exact HO555.out) hb) (Kd.R_base ho0)) (Kd.R_base ho1)) (Kd.N_base ho2)) (fun _ h_ => h_.1)); have n3_ := Aside0.mk (Kd.V_mono (Kd.V_told (Kd.V_told (Kd.V_told (Kd.V_old (by (with_reducible repeat (first | apply Kd.V_alloc | apply Kd.V_drewN | apply Kd.V_drew)); exact HO563.out) hb) (Kd.R_base ho0)) (Kd.R_base ho1)) (Kd.N_base ho2)) (fun _ h_ => h_.1)); have n4_ := Aside0.mk (Kd.N_mono (Kd.N_told (Kd.N_told (Kd.N_told (Kd.N_old (by (with_reducible repeat (first | apply Kd.N_alloc | apply Kd.N_drewN | apply Kd.N_drew)); exact HO566.out) hb) (Kd.R_base ho0)) (Kd.R_base ho1)) (Kd.N_base ho2)) (fun _ h_ => h_.1)); have n5_ := Aside0.mk (Kd.R_elder' (by (with_reducible repeat (first | apply Kd.R_alloc | apply Kd.R_drewN | apply Kd.R_drew)); exact HO572.out) (Kd.R_base ho0) hb); have n6_ := Aside0.mk (Kd.R_elder' (by (with_reducible repeat (first | apply Kd.R_alloc | apply Kd.R_drewN | apply Kd.R_drew)); exact HO577.out) (Kd.R_base ho1) hb); have n7_ := Aside0.mk (Kd.N_mono (Kd.N_told (Kd.N_told (Kd.N_told (Kd.N_old (by (with_reducible repeat (first | apply Kd.N_alloc | apply Kd.N_drewN | apply Kd.N_drew)); exact HO580.out) hb) (Kd.R_base ho0)) (Kd.R_base ho1)) (Kd.N_base ho2)) (fun _ h_ => h_.1)); have n8_ := Aside0.mk (Kd.R_lower (Kd.R_new' (Kd.R_mono (ok' := fun k_ => True) ho0 (fun _ hk_ => trivial)) (Kd.R_lt (by (with_reducible repeat (first | apply Kd.R_alloc | apply Kd.R_drewN | apply Kd.R_drew)); exact HO572.out))) (below_size (by repeat (first | (with_reducible first | exact HB.out | apply below_alloc | apply pw_below_drewN | apply below_drew1 | refine below_set ?_ GE583.out) | exact HB.out)))); have n9_ := Aside0.mk (Kd.R_lower (Kd.R_new' (Kd.R_new' (Kd.R_mono (ok' := fun k_ => True) ho1 (fun _ hk_ => trivial)) (Kd.R_lt (by (with_reducible repeat (first | apply Kd.R_alloc | apply Kd.R_drewN | apply Kd.R_drew)); exact HO550.out))) (Kd.R_lt (by (with_reducible repeat (first | apply Kd.R_alloc | apply Kd.R_drewN | apply Kd.R_drew)); exact HO577.out))) (below_size (by repeat (first | (with_reducible first | exact HB.out | apply below_alloc | apply pw_below_drewN | apply below_drew1 | refine below_set ?_ GE583.out) | exact HB.out)))); have n10_ := Aside0.mk (Kd.N_lower (Kd.N_mono (ok' := fun k_ => some k_ ≠ (v588 : Value).ownBlock ∧ some k_ ≠ (v593 : Value).ownBlock ∧ some k_ ≠ (.slice Ao44 y548.length co44 : Value).ownBlock ∧ some k_ ≠ (.slice Ao40 t570.length co40 : Value).ownBlock ∧ some k_ ≠ (.slice Ao41 t575.length co41 : Value).ownBlock ∧ some k_ ≠ (.slice Ao42 t578.length co42 : Value).ownBlock ∧ k_ ≠ gb583) ho2 (fun k_ hk_ => ⟨hk_.2.1, hk_.2.2, Or.elim hk_.1 (fun hs_ => hs_.1) (fun hn_ => (Kd.fresh' (Kd.R_lt (by (with_reducible repeat (first | apply Kd.R_alloc | apply Kd.R_drewN | apply Kd.R_drew)); exact HO550.out)) k_ hn_)), Or.elim hk_.1 (fun hs_ => hs_.2.1) (fun hn_ => (Kd.fresh' (Kd.R_lt (by (with_reducible repeat (first | apply Kd.R_alloc | apply Kd.R_drewN | apply Kd.R_drew)); exact HO572.out)) k_ hn_)), Or.elim hk_.1 (fun hs_ => hs_.2.2.1) (fun hn_ => (Kd.fresh' (Kd.R_lt (by (with_reducible repeat (first | apply Kd.R_alloc | apply Kd.R_drewN | apply Kd.R_drew)); exact HO577.out)) k_ hn_)), Or.elim hk_.1 (fun hs_ => hs_.2.2.2.1) (fun hn_ => (Kd.fresh' (Kd.N_lt (by (with_reducible repeat (first | apply Kd.N_alloc | apply Kd.N_drewN | apply Kd.N_drew)); exact HO580.out)) k_ hn_)), Or.elim hk_.1 (fun hs_ => hs_.2.2.2.2) (fun hn_ => (Kd.freshB (g := gb583) (o := .cells #[.int .i64 t567, .bool t568, .bool t569, .slice Ao40 t570.length co40, .int .i64 t573, .string t574, .slice Ao41 t575.length co41, .slice Ao42 t578.length co42] 50 (0, 0)) (by (with_reducible repeat (first | refine blk_drewN ?_ _ | refine blk_drew ?_ | refine blk_alloc ?_ _)); exact BK583.out) k_ hn_))⟩)) (below_size (by repeat (first | (with_reducible first | exact HB.out | apply below_alloc | apply pw_below_drewN | apply below_drew1 | refine below_set ?_ GE583.out) | exact HB.out)))); have n11_ := Aside0.mk (blk_below (g := gb583) (o := .cells #[.int .i64 t567, .bool t568, .bool t569, .slice Ao40 t570.length co40, .int .i64 t573, .string t574, .slice Ao41 t575.length co41, .slice Ao42 t578.length co42] 50 (0, 0)) (by (with_reducible repeat (first | refine blk_drewN ?_ _ | refine blk_drew ?_ | refine blk_alloc ?_ _)); exact BK583.out) hb); have n12_ := Aside0.mk (below_step (by repeat (first | (with_reducible first | exact HB.out | apply below_alloc | apply pw_below_drewN | apply below_drew1 | refine below_set ?_ GE583.out) | exact HB.out)) hb); clear HO_5; clear HO550; clear HO555; clear HO563; clear HO566; clear HO572; clear HO577; clear HO580; clear BK583; clear HB; have HO_5 := n0_; have HO550 := n1_; have HO555 := n2_; have HO563 := n3_; have HO566 := n4_; have HO572 := n5_; have HO577 := n6_; have HO580 := n7_; have HO589 := n8_; have HO594 := n9_; have HO597 := n10_; have BK583 := n11_; have HB := n12_; clear n0_ n1_ n2_ n3_ n4_ n5_ n6_ n7_ n8_ n9_ n10_ n11_ n12_; (try clear hb); (try clear hb2); (try clear hk); (try clear hi); (try clear ho0); (try clear ho1); (try clear ho2)) | ((with_reducible refine gate_dst (N := 13) rfl ?_); (try (refine gate_guard (by rfl) ?_; dsimp only)); refine box_event ?hg (N := 13) ?hd (cs := #[.int .i64 0, .bool false, .bool false, .slice none 0 0, .int .i64 0, .string (⟨#[]⟩ : ByteArray), .slice none 0 0, .slice none 0 0]) (t := 50) ?hr ?_; (case hd => rfl); (case hg => rfl); (case hr => first | (go_simp; done) | (go_simp; rfl)); intro gb600 hg w47 hbox hb; have n0_ := Aside0.mk (Kd.N_below (Kd.N_elderB (by (with_reducible repeat (first | apply Kd.N_alloc | apply Kd.N_drewN | apply Kd.N_drew)); exact HO_5.out) gb600 (Nat.le_of_eq hg.symm)) hb); have n1_ := Aside0.mk (Kd.R_below (by (with_reducible repeat (first | apply Kd.R_alloc | apply Kd.R_drewN | apply Kd.R_drew)); exact HO550.out) hb); have n2_ := Aside0.mk (Kd.V_below (Kd.V_elderB (by (with_reducible repeat (first | apply Kd.V_alloc | apply Kd.V_drewN | apply Kd.V_drew)); exact HO555.out) gb600 (Nat.le_of_eq hg.symm)) hb); have n3_ := Aside0.mk (Kd.V_below (Kd.V_elderB (by (with_reducible repeat (first | apply Kd.V_alloc | apply Kd.V_drewN | apply Kd.V_drew)); exact HO563.out) gb600 (Nat.le_of_eq hg.symm)) hb); have n4_ := Aside0.mk (Kd.N_below (Kd.N_elderB (by (with_reducible repeat (first | apply Kd.N_alloc | apply Kd.N_drewN | apply Kd.N_drew)); exact HO566.out) gb600 (Nat.le_of_eq hg.symm)) hb); have n5_ := Aside0.mk (Kd.R_below (by (with_reducible repeat (first | apply Kd.R_alloc | apply Kd.R_drewN | apply Kd.R_drew)); exact HO572.out) hb); have n6_ := Aside0.mk (Kd.R_below (by (with_reducible repeat (first | apply Kd.R_alloc | apply Kd.R_drewN | apply Kd.R_drew)); exact HO577.out) hb); have n7_ := Aside0.mk (Kd.N_below (Kd.N_elderB (by (with_reducible repeat (first | apply Kd.N_alloc | apply Kd.N_drewN | apply Kd.N_drew)); exact HO580.out) gb600 (Nat.le_of_eq hg.symm)) hb); have n8_ := Aside0.mk (Kd.R_below (by (with_reducible repeat (first | apply Kd.R_alloc | apply Kd.R_drewN | apply Kd.R_drew)); exact HO589.out) hb); have n9_ := Aside0.mk (Kd.R_below (by (with_reducible repeat (first | apply Kd.R_alloc | apply Kd.R_drewN | apply Kd.R_drew)); exact HO594.out) hb); have n10_ := Aside0.mk (Kd.N_below (Kd.N_elderB (by (with_reducible repeat (first | apply Kd.N_alloc | apply Kd.N_drewN | apply Kd.N_drew)); exact HO597.out) gb600 (Nat.le_of_eq hg.symm)) hb); have n11_ := Aside0.mk (blk_below (g := gb583) (o := .cells #[.int .i64 t567, .bool t568, .bool t569, .slice Ao40 t570.length co40, .int .i64 t573, .string t574, .slice Ao41 t575.length co41, .slice Ao42 t578.length co42] 50 (0, 0)) (by (with_reducible repeat (first | refine blk_drewN ?_ _ | refine blk_drew ?_ | refine blk_alloc ?_ _)); exact BK583.out) hb); have n12_ := Aside0.mk (below_step (by repeat (first | (with_reducible first | exact HB.out | apply below_alloc | apply pw_below_drewN | apply below_drew1 | refine below_set ?_ GE583.out) | exact HB.out)) hb); have n13_ := Aside0.mk (hbox); have n14_ := Aside0.mk ((by rw [hg]; exact (below_size (by repeat (first | (with_reducible first | exact HB.out | apply below_alloc | apply pw_below_drewN | apply below_drew1 | refine below_set ?_ GE583.out) | exact HB.out))) : w.heap.size ≤ gb600)); have n15_ := Aside0.mk ((by rw [hg]; exact (below_size (by repeat (first | (with_reducible first | exact HB.out | apply below_alloc | apply pw_below_drewN | apply below_drew1 | refine below_set ?_ GE583.out) | exact HB.out))) : w.heap.size ≤ gb600)); have n16_ := Aside0.mk ((by rw [hg]; exact Nat.ne_of_lt (blk_lt (g := gb583) (o := .cells #[.int .i64 t567, .bool t568, .bool t569, .slice Ao40 t570.length co40, .int .i64 t573, .string t574, .slice Ao41 t575.length co41, .slice Ao42 t578.length co42] 50 (0, 0)) (by (with_reducible repeat (first | refine blk_drewN ?_ _ | refine blk_drew ?_ | refine blk_alloc ?_ _)); exact BK583.out)) : gb583 ≠ gb600)); have n17_ := Aside0.mk ((by rw [hg]; exact Nat.ne_of_gt (blk_lt (g := gb583) (o := .cells #[.int .i64 t567, .bool t568, .bool t569, .slice Ao40 t570.length co40, .int .i64 t573, .string t574, .slice Ao41 t575.length co41, .slice Ao42 t578.length co42] 50 (0, 0)) (by (with_reducible repeat (first | refine blk_drewN ?_ _ | refine blk_drew ?_ | refine blk_alloc ?_ _)); exact BK583.out)) : gb600 ≠ gb583)); clear HO_5; clear HO550; clear HO555; clear HO563; clear HO566; clear HO572; clear HO577; clear HO580; clear HO589; clear HO594; clear HO597; clear BK583; clear HB; have HO_5 := n0_; have HO550 := n1_; have HO555 := n2_; have HO563 := n3_; have HO566 := n4_; have HO572 := n5_; have HO577 := n6_; have HO580 := n7_; have HO589 := n8_; have HO594 := n9_; have HO597 := n10_; have BK583 := n11_; have HB := n12_; have BK600 := n13_; have GW600 := n14_; have GE600 := n15_; have NB583_600 := n16_; have NB600_583 := n17_; clear n0_ n1_ n2_ n3_ n4_ n5_ n6_ n7_ n8_ n9_ n10_ n11_ n12_ n13_ n14_ n15_ n16_ n17_; clear hb hbox hg; have hnb48 := NB600_583.out; have hnc48 := NB583_600.out; have hcz49_0 : w47.cell? ⟨gb600, 0, none⟩ = some (.int .i64 0) := (blk_cell BK600.out 0).trans rfl; have hcz49_1 : w47.cell? ⟨gb600, 1, none⟩ = some (.bool false) := (blk_cell BK600.out 1).trans rfl; have hcz49_2 : w47.cell? ⟨gb600, 2, none⟩ = some (.bool false) := (blk_cell BK600.out 2).trans rfl; have hcz49_3 : w47.cell? ⟨gb600, 3, none⟩ = some (.slice none 0 0) := (blk_cell BK600.out 3).trans rfl; have hcz49_4 : w47.cell? ⟨gb600, 4, none⟩ = some (.int .i64 0) := (blk_cell BK600.out 4).trans rfl; have hcz49_5 : w47.cell? ⟨gb600, 5, none⟩ = some (.string (⟨#[]⟩ : ByteArray)) := (blk_cell BK600.out 5).trans rfl; have hcz49_6 : w47.cell? ⟨gb600, 6, none⟩ = some (.slice none 0 0) := (blk_cell BK600.out 6).trans rfl; have hcz49_7 : w47.cell? ⟨gb600, 7, none⟩ = some (.slice none 0 0) := (blk_cell BK600.out 7).trans rfl; have hfz49_0 := blk_frozen BK600.out 0; have hfz49_1 := blk_frozen BK600.out 1; have hfz49_2 := blk_frozen BK600.out 2; have hfz49_3 := blk_frozen BK600.out 3; have hfz49_4 := blk_frozen BK600.out 4; have hfz49_5 := blk_frozen BK600.out 5; have hfz49_6 := blk_frozen BK600.out 6; have hfz49_7 := blk_frozen BK600.out 7; obtain ⟨Ao50, co50, eo50⟩ := Kd.R_slice HO589.out; subst eo50; obtain ⟨Ao51, co51, eo51⟩ := Kd.R_slice HO594.out; subst eo51; obtain ⟨Ao52, co52, eo52⟩ := Kd.N_slice HO597.out; subst eo52) | ((with_reducible refine gate_callee (f := 20) rfl ?_); refine goesL_ (some 76) rfl rfl Try.func20 (by kernel_rfl) rfl #[.slice A0 l0.length c0] rfl (by (try simp only [List.map_toArray, List.map_cons, List.map_nil]); first | done | rfl | (simp only [List.length_drop, List.length_take]; rfl)) ?_; (with_reducible refine (order_Twice.calls _ _ l0 t601 t602 _ ?side1 ?side2 A24.out).mono ?_); (case side1 => exact Kd.C_below HR0.out (by repeat (first | (with_reducible first | exact HB.out | apply below_alloc | apply pw_below_drewN | apply below_drew1 | refine below_set ?_ GE583.out | refine below_set ?_ GE600.out) | exact HB.out))); (case side2 => exact HC0.out); rintro e w53 ⟨rfl, hb⟩; refine ⟨_, rfl, ?_⟩; have n0_ := Aside0.mk (Kd.N_below (by (with_reducible repeat (first | apply Kd.N_alloc | apply Kd.N_drewN | apply Kd.N_drew)); exact (Kd.N_mono (Kd.N_far (p := ⟨gb600, 7, none⟩) (Kd.N_far (p := ⟨gb600, 6, none⟩) (Kd.N_far (p := ⟨gb600, 5, none⟩) (Kd.N_far (p := ⟨gb600, 4, none⟩) (Kd.N_far (p := ⟨gb600, 3, none⟩) (Kd.N_far (p := ⟨gb600, 2, none⟩) (Kd.N_far (p := ⟨gb600, 1, none⟩) (Kd.N_far (p := ⟨gb600, 0, none⟩) (Kd.N_mono HO_5.out (fun k_ hk => (⟨hk, hk.2⟩ : _ ∧ k_ ≠ gb600))) (fun _ hk => hk.2) (.int .i64 t584)) (fun _ hk => hk.2) (.bool t585)) (fun _ hk => hk.2) (.bool t586)) (fun _ hk => hk.2) (.slice Ao50 t587.length co50)) (fun _ hk => hk.2) (.int .i64 t590)) (fun _ hk => hk.2) (.string t591)) (fun _ hk => hk.2) (.slice Ao51 t592.length co51)) (fun _ hk => hk.2) (.slice Ao52 t595.length co52)) (fun _ h_ => h_.1))) hb); have n1_ := Aside0.mk (Kd.R_below (by (with_reducible repeat (first | apply Kd.R_alloc | apply Kd.R_drewN | apply Kd.R_drew)); exact (Kd.R_mono (Kd.R_far (p := ⟨gb600, 7, none⟩) (Kd.R_far (p := ⟨gb600, 6, none⟩) (Kd.R_far (p := ⟨gb600, 5, none⟩) (Kd.R_far (p := ⟨gb600, 4, none⟩) (Kd.R_far (p := ⟨gb600, 3, none⟩) (Kd.R_far (p := ⟨gb600, 2, none⟩) (Kd.R_far (p := ⟨gb600, 1, none⟩) (Kd.R_far (p := ⟨gb600, 0, none⟩) (Kd.R_types HO550.out BK600.out (by decide)) (fun _ hk => hk.2) (.int .i64 t584)) (fun _ hk => hk.2) (.bool t585)) (fun _ hk => hk.2) (.bool t586)) (fun _ hk => hk.2) (.slice Ao50 t587.length co50)) (fun _ hk => hk.2) (.int .i64 t590)) (fun _ hk => hk.2) (.string t591)) (fun _ hk => hk.2) (.slice Ao51 t592.length co51)) (fun _ hk => hk.2) (.slice Ao52 t595.length co52)) (fun _ h_ => h_.1))) hb); have n2_ := Aside0.mk (Kd.V_below (by (with_reducible repeat (first | apply Kd.V_alloc | apply Kd.V_drewN | apply Kd.V_drew)); exact (Kd.V_mono (Kd.V_far (p := ⟨gb600, 7, none⟩) (Kd.V_far (p := ⟨gb600, 6, none⟩) (Kd.V_far (p := ⟨gb600, 5, none⟩) (Kd.V_far (p := ⟨gb600, 4, none⟩) (Kd.V_far (p := ⟨gb600, 3, none⟩) (Kd.V_far (p := ⟨gb600, 2, none⟩) (Kd.V_far (p := ⟨gb600, 1, none⟩) (Kd.V_far (p := ⟨gb600, 0, none⟩) (Kd.V_mono HO555.out (fun k_ hk => (⟨hk, hk.2⟩ : _ ∧ k_ ≠ gb600))) (fun _ hk => hk.2) (.int .i64 t584)) (fun _ hk => hk.2) (.bool t585)) (fun _ hk => hk.2) (.bool t586)) (fun _ hk => hk.2) (.slice Ao50 t587.length co50)) (fun _ hk => hk.2) (.int .i64 t590)) (fun _ hk => hk.2) (.string t591)) (fun _ hk => hk.2) (.slice Ao51 t592.length co51)) (fun _ hk => hk.2) (.slice Ao52 t595.length co52)) (fun _ h_ => h_.1))) hb); have n3_ := Aside0.mk (Kd.V_below (by (with_reducible repeat (first | apply Kd.V_alloc | apply Kd.V_drewN | apply Kd.V_drew)); exact (Kd.V_mono (Kd.V_far (p := ⟨gb600, 7, none⟩) (Kd.V_far (p := ⟨gb600, 6, none⟩) (Kd.V_far (p := ⟨gb600, 5, none⟩) (Kd.V_far (p := ⟨gb600, 4, none⟩) (Kd.V_far (p := ⟨gb600, 3, none⟩) (Kd.V_far (p := ⟨gb600, 2, none⟩) (Kd.V_far (p := ⟨gb600, 1, none⟩) (Kd.V_far (p := ⟨gb600, 0, none⟩) (Kd.V_mono HO563.out (fun k_ hk => (⟨hk, hk.2⟩ : _ ∧ k_ ≠ gb600))) (fun _ hk => hk.2) (.int .i64 t584)) (fun _ hk => hk.2) (.bool t585)) (fun _ hk => hk.2) (.bool t586)) (fun _ hk => hk.2) (.slice Ao50 t587.length co50)) (fun _ hk => hk.2) (.int .i64 t590)) (fun _ hk => hk.2) (.string t591)) (fun _ hk => hk.2) (.slice Ao51 t592.length co51)) (fun _ hk => hk.2) (.slice Ao52 t595.length co52)) (fun _ h_ => h_.1))) hb); have n4_ := Aside0.mk (Kd.N_below (by (with_reducible repeat (first | apply Kd.N_alloc | apply Kd.N_drewN | apply Kd.N_drew)); exact (Kd.N_mono (Kd.N_far (p := ⟨gb600, 7, none⟩) (Kd.N_far (p := ⟨gb600, 6, none⟩) (Kd.N_far (p := ⟨gb600, 5, none⟩) (Kd.N_far (p := ⟨gb600, 4, none⟩) (Kd.N_far (p := ⟨gb600, 3, none⟩) (Kd.N_far (p := ⟨gb600, 2, none⟩) (Kd.N_far (p := ⟨gb600, 1, none⟩) (Kd.N_far (p := ⟨gb600, 0, none⟩) (Kd.N_mono HO566.out (fun k_ hk => (⟨hk, hk.2⟩ : _ ∧ k_ ≠ gb600))) (fun _ hk => hk.2) (.int .i64 t584)) (fun _ hk => hk.2) (.bool t585)) (fun _ hk => hk.2) (.bool t586)) (fun _ hk => hk.2) (.slice Ao50 t587.length co50)) (fun _ hk => hk.2) (.int .i64 t590)) (fun _ hk => hk.2) (.string t591)) (fun _ hk => hk.2) (.slice Ao51 t592.length co51)) (fun _ hk => hk.2) (.slice Ao52 t595.length co52)) (fun _ h_ => h_.1))) hb); have n5_ := Aside0.mk (Kd.R_below (by (with_reducible repeat (first | apply Kd.R_alloc | apply Kd.R_drewN | apply Kd.R_drew)); exact (Kd.R_mono (Kd.R_far (p := ⟨gb600, 7, none⟩) (Kd.R_far (p := ⟨gb600, 6, none⟩) (Kd.R_far (p := ⟨gb600, 5, none⟩) (Kd.R_far (p := ⟨gb600, 4, none⟩) (Kd.R_far (p := ⟨gb600, 3, none⟩) (Kd.R_far (p := ⟨gb600, 2, none⟩) (Kd.R_far (p := ⟨gb600, 1, none⟩) (Kd.R_far (p := ⟨gb600, 0, none⟩) (Kd.R_types HO572.out BK600.out (by decide)) (fun _ hk => hk.2) (.int .i64 t584)) (fun _ hk => hk.2) (.bool t585)) (fun _ hk => hk.2) (.bool t586)) (fun _ hk => hk.2) (.slice Ao50 t587.length co50)) (fun _ hk => hk.2) (.int .i64 t590)) (fun _ hk => hk.2) (.string t591)) (fun _ hk => hk.2) (.slice Ao51 t592.length co51)) (fun _ hk => hk.2) (.slice Ao52 t595.length co52)) (fun _ h_ => h_.1))) hb); have n6_ := Aside0.mk (Kd.R_below (by (with_reducible repeat (first | apply Kd.R_alloc | apply Kd.R_drewN | apply Kd.R_drew)); exact (Kd.R_mono (Kd.R_far (p := ⟨gb600, 7, none⟩) (Kd.R_far (p := ⟨gb600, 6, none⟩) (Kd.R_far (p := ⟨gb600, 5, none⟩) (Kd.R_far (p := ⟨gb600, 4, none⟩) (Kd.R_far (p := ⟨gb600, 3, none⟩) (Kd.R_far (p := ⟨gb600, 2, none⟩) (Kd.R_far (p := ⟨gb600, 1, none⟩) (Kd.R_far (p := ⟨gb600, 0, none⟩) (Kd.R_types HO577.out BK600.out (by decide)) (fun _ hk => hk.2) (.int .i64 t584)) (fun _ hk => hk.2) (.bool t585)) (fun _ hk => hk.2) (.bool t586)) (fun _ hk => hk.2) (.slice Ao50 t587.length co50)) (fun _ hk => hk.2) (.int .i64 t590)) (fun _ hk => hk.2) (.string t591)) (fun _ hk => hk.2) (.slice Ao51 t592.length co51)) (fun _ hk => hk.2) (.slice Ao52 t595.length co52)) (fun _ h_ => h_.1))) hb); have n7_ := Aside0.mk (Kd.N_below (by (with_reducible repeat (first | apply Kd.N_alloc | apply Kd.N_drewN | apply Kd.N_drew)); exact (Kd.N_mono (Kd.N_far (p := ⟨gb600, 7, none⟩) (Kd.N_far (p := ⟨gb600, 6, none⟩) (Kd.N_far (p := ⟨gb600, 5, none⟩) (Kd.N_far (p := ⟨gb600, 4, none⟩) (Kd.N_far (p := ⟨gb600, 3, none⟩) (Kd.N_far (p := ⟨gb600, 2, none⟩) (Kd.N_far (p := ⟨gb600, 1, none⟩) (Kd.N_far (p := ⟨gb600, 0, none⟩) (Kd.N_mono HO580.out (fun k_ hk => (⟨hk, hk.2⟩ : _ ∧ k_ ≠ gb600))) (fun _ hk => hk.2) (.int .i64 t584)) (fun _ hk => hk.2) (.bool t585)) (fun _ hk => hk.2) (.bool t586)) (fun _ hk => hk.2) (.slice Ao50 t587.length co50)) (fun _ hk => hk.2) (.int .i64 t590)) (fun _ hk => hk.2) (.string t591)) (fun _ hk => hk.2) (.slice Ao51 t592.length co51)) (fun _ hk => hk.2) (.slice Ao52 t595.length co52)) (fun _ h_ => h_.1))) hb); have n8_ := Aside0.mk (Kd.R_below (by (with_reducible repeat (first | apply Kd.R_alloc | apply Kd.R_drewN | apply Kd.R_drew)); exact (Kd.R_mono (Kd.R_far (p := ⟨gb600, 7, none⟩) (Kd.R_far (p := ⟨gb600, 6, none⟩) (Kd.R_far (p := ⟨gb600, 5, none⟩) (Kd.R_far (p := ⟨gb600, 4, none⟩) (Kd.R_far (p := ⟨gb600, 3, none⟩) (Kd.R_far (p := ⟨gb600, 2, none⟩) (Kd.R_far (p := ⟨gb600, 1, none⟩) (Kd.R_far (p := ⟨gb600, 0, none⟩) (Kd.R_types HO589.out BK600.out (by decide)) (fun _ hk => hk.2) (.int .i64 t584)) (fun _ hk => hk.2) (.bool t585)) (fun _ hk => hk.2) (.bool t586)) (fun _ hk => hk.2) (.slice Ao50 t587.length co50)) (fun _ hk => hk.2) (.int .i64 t590)) (fun _ hk => hk.2) (.string t591)) (fun _ hk => hk.2) (.slice Ao51 t592.length co51)) (fun _ hk => hk.2) (.slice Ao52 t595.length co52)) (fun _ h_ => h_.1))) hb); have n9_ := Aside0.mk (Kd.R_below (by (with_reducible repeat (first | apply Kd.R_alloc | apply Kd.R_drewN | apply Kd.R_drew)); exact (Kd.R_mono (Kd.R_far (p := ⟨gb600, 7, none⟩) (Kd.R_far (p := ⟨gb600, 6, none⟩) (Kd.R_far (p := ⟨gb600, 5, none⟩) (Kd.R_far (p := ⟨gb600, 4, none⟩) (Kd.R_far (p := ⟨gb600, 3, none⟩) (Kd.R_far (p := ⟨gb600, 2, none⟩) (Kd.R_far (p := ⟨gb600, 1, none⟩) (Kd.R_far (p := ⟨gb600, 0, none⟩) (Kd.R_types HO594.out BK600.out (by decide)) (fun _ hk => hk.2) (.int .i64 t584)) (fun _ hk => hk.2) (.bool t585)) (fun _ hk => hk.2) (.bool t586)) (fun _ hk => hk.2) (.slice Ao50 t587.length co50)) (fun _ hk => hk.2) (.int .i64 t590)) (fun _ hk => hk.2) (.string t591)) (fun _ hk => hk.2) (.slice Ao51 t592.length co51)) (fun _ hk => hk.2) (.slice Ao52 t595.length co52)) (fun _ h_ => h_.1))) hb); have n10_ := Aside0.mk (Kd.N_below (by (with_reducible repeat (first | apply Kd.N_alloc | apply Kd.N_drewN | apply Kd.N_drew)); exact (Kd.N_mono (Kd.N_far (p := ⟨gb600, 7, none⟩) (Kd.N_far (p := ⟨gb600, 6, none⟩) (Kd.N_far (p := ⟨gb600, 5, none⟩) (Kd.N_far (p := ⟨gb600, 4, none⟩) (Kd.N_far (p := ⟨gb600, 3, none⟩) (Kd.N_far (p := ⟨gb600, 2, none⟩) (Kd.N_far (p := ⟨gb600, 1, none⟩) (Kd.N_far (p := ⟨gb600, 0, none⟩) (Kd.N_mono HO597.out (fun k_ hk => (⟨hk, hk.2⟩ : _ ∧ k_ ≠ gb600))) (fun _ hk => hk.2) (.int .i64 t584)) (fun _ hk => hk.2) (.bool t585)) (fun _ hk => hk.2) (.bool t586)) (fun _ hk => hk.2) (.slice Ao50 t587.length co50)) (fun _ hk => hk.2) (.int .i64 t590)) (fun _ hk => hk.2) (.string t591)) (fun _ hk => hk.2) (.slice Ao51 t592.length co51)) (fun _ hk => hk.2) (.slice Ao52 t595.length co52)) (fun _ h_ => h_.1))) hb); have n11_ := Aside0.mk (blk_below (g := gb583) (o := .cells #[.int .i64 t567, .bool t568, .bool t569, .slice Ao40 t570.length co40, .int .i64 t573, .string t574, .slice Ao41 t575.length co41, .slice Ao42 t578.length co42] 50 (0, 0)) (by (with_reducible repeat (first | refine blk_drewN ?_ _ | refine blk_drew ?_ | refine blk_alloc ?_ _)); refine blk_far ?_ NB583_600.out _; (with_reducible repeat (first | refine blk_drewN ?_ _ | refine blk_drew ?_ | refine blk_alloc ?_ _)); refine blk_far ?_ NB583_600.out _; (with_reducible repeat (first | refine blk_drewN ?_ _ | refine blk_drew ?_ | refine blk_alloc ?_ _)); refine blk_far ?_ NB583_600.out _; (with_reducible repeat (first | refine blk_drewN ?_ _ | refine blk_drew ?_ | refine blk_alloc ?_ _)); refine blk_far ?_ NB583_600.out _; (with_reducible repeat (first | refine blk_drewN ?_ _ | refine blk_drew ?_ | refine blk_alloc ?_ _)); refine blk_far ?_ NB583_600.out _; (with_reducible repeat (first | refine blk_drewN ?_ _ | refine blk_drew ?_ | refine blk_alloc ?_ _)); refine blk_far ?_ NB583_600.out _; (with_reducible repeat (first | refine blk_drewN ?_ _ | refine blk_drew ?_ | refine blk_alloc ?_ _)); refine blk_far ?_ NB583_600.out _; (with_reducible repeat (first | refine blk_drewN ?_ _ | refine blk_drew ?_ | refine blk_alloc ?_ _)); refine blk_far ?_ NB583_600.out _; (with_reducible repeat (first | refine blk_drewN ?_ _ | refine blk_drew ?_ | refine blk_alloc ?_ _)); exact BK583.out) hb); have n12_ := Aside0.mk (blk_below (g := gb600) (o := .cells #[.int .i64 t584, .bool t585, .bool t586, .slice Ao50 t587.length co50, .int .i64 t590, .string t591, .slice Ao51 t592.length co51, .slice Ao52 t595.length co52] 50 (0, 0)) (by (with_reducible repeat (first | refine blk_drewN ?_ _ | refine blk_drew ?_ | refine blk_alloc ?_ _)); refine blk_put (cs := #[.int .i64 t584, .bool t585, .bool t586, .slice Ao50 t587.length co50, .int .i64 t590, .string t591, .slice Ao51 t592.length co51, .slice none 0 0]) ?_ 7 _ rfl; (with_reducible repeat (first | refine blk_drewN ?_ _ | refine blk_drew ?_ | refine blk_alloc ?_ _)); refine blk_put (cs := #[.int .i64 t584, .bool t585, .bool t586, .slice Ao50 t587.length co50, .int .i64 t590, .string t591, .slice none 0 0, .slice none 0 0]) ?_ 6 _ rfl; (with_reducible repeat (first | refine blk_drewN ?_ _ | refine blk_drew ?_ | refine blk_alloc ?_ _)); refine blk_put (cs := #[.int .i64 t584, .bool t585, .bool t586, .slice Ao50 t587.length co50, .int .i64 t590, .string (⟨#[]⟩ : ByteArray), .slice none 0 0, .slice none 0 0]) ?_ 5 _ rfl; (with_reducible repeat (first | refine blk_drewN ?_ _ | refine blk_drew ?_ | refine blk_alloc ?_ _)); refine blk_put (cs := #[.int .i64 t584, .bool t585, .bool t586, .slice Ao50 t587.length co50, .int .i64 0, .string (⟨#[]⟩ : ByteArray), .slice none 0 0, .slice none 0 0]) ?_ 4 _ rfl; (with_reducible repeat (first | refine blk_drewN ?_ _ | refine blk_drew ?_ | refine blk_alloc ?_ _)); refine blk_put (cs := #[.int .i64 t584, .bool t585, .bool t586, .slice none 0 0, .int .i64 0, .string (⟨#[]⟩ : ByteArray), .slice none 0 0, .slice none 0 0]) ?_ 3 _ rfl; (with_reducible repeat (first | refine blk_drewN ?_ _ | refine blk_drew ?_ | refine blk_alloc ?_ _)); refine blk_put (cs := #[.int .i64 t584, .bool t585, .bool false, .slice none 0 0, .int .i64 0, .string (⟨#[]⟩ : ByteArray), .slice none 0 0, .slice none 0 0]) ?_ 2 _ rfl; (with_reducible repeat (first | refine blk_drewN ?_ _ | refine blk_drew ?_ | refine blk_alloc ?_ _)); refine blk_put (cs := #[.int .i64 t584, .bool false, .bool false, .slice none 0 0, .int .i64 0, .string (⟨#[]⟩ : ByteArray), .slice none 0 0, .slice none 0 0]) ?_ 1 _ rfl; (with_reducible repeat (first | refine blk_drewN ?_ _ | refine blk_drew ?_ | refine blk_alloc ?_ _)); refine blk_put (cs := #[.int .i64 0, .bool false, .bool false, .slice none 0 0, .int .i64 0, .string (⟨#[]⟩ : ByteArray), .slice none 0 0, .slice none 0 0]) ?_ 0 _ rfl; (with_reducible repeat (first | refine blk_drewN ?_ _ | refine blk_drew ?_ | refine blk_alloc ?_ _)); exact BK600.out) hb); have n13_ := Aside0.mk (below_step (by repeat (first | (with_reducible first | exact HB.out | apply below_alloc | apply pw_below_drewN | apply below_drew1 | refine below_set ?_ GE583.out | refine below_set ?_ GE600.out) | exact HB.out)) hb); clear HO_5; clear HO550; clear HO555; clear HO563; clear HO566; clear HO572; clear HO577; clear HO580; clear HO589; clear HO594; clear HO597; clear BK583; clear BK600; clear HB; have HO_5 := n0_; have HO550 := n1_; have HO555 := n2_; have HO563 := n3_; have HO566 := n4_; have HO572 := n5_; have HO577 := n6_; have HO580 := n7_; have HO589 := n8_; have HO594 := n9_; have HO597 := n10_; have BK583 := n11_; have BK600 := n12_; have HB := n13_; clear n0_ n1_ n2_ n3_ n4_ n5_ n6_ n7_ n8_ n9_ n10_ n11_ n12_ n13_; (try clear hb); (try clear hb2); (try clear hk); (try clear hi)))
            (try simp only [Act.put, List.setIfInBounds_toArray, List.set_cons_zero, List.set_cons_succ])
            go_cut [91] (fun v91 wc => ∃ (kq : Nat) (x91_24 : Bool), v91 = .bool x91_24 ∧ Aside0 (erratumlaw06_OrderObjects.j1 kq l0 t582 x91_24 t567 t568 t569 t570 t573 t574 t575 t578 t584 t585 t586 t587 t590 t591 t592 t595 = some true) ∧ Aside0 (kq ≤ k1) ∧ Aside0 (Kd.R (Kd.int .u32) 78 wc w.heap.size (fun k_ => some k_ ≠ ((.slice Ao50 t587.length co50) : Value).ownBlock) (.slice Ao40 t570.length co40) t570) ∧ Aside0 (Kd.R Kd.string 9 wc w.heap.size (fun k_ => some k_ ≠ ((.slice Ao51 t592.length co51) : Value).ownBlock) (.slice Ao41 t575.length co41) t575) ∧ Aside0 (Kd.N k50 50 wc w.heap.size (fun k_ => some k_ ≠ ((.slice Ao40 t570.length co40) : Value).ownBlock ∧ some k_ ≠ ((.slice Ao41 t575.length co41) : Value).ownBlock ∧ some k_ ≠ ((.slice Ao50 t587.length co50) : Value).ownBlock ∧ some k_ ≠ ((.slice Ao51 t592.length co51) : Value).ownBlock ∧ some k_ ≠ ((.slice Ao52 t595.length co52) : Value).ownBlock ∧ k_ ≠ gb583 ∧ k_ ≠ gb600) (.slice Ao42 t578.length co42) t578) ∧ Aside0 (Kd.R (Kd.int .u32) 78 wc w.heap.size (fun k_ => some k_ ≠ ((.slice Ao40 t570.length co40) : Value).ownBlock) (.slice Ao50 t587.length co50) t587) ∧ Aside0 (Kd.R Kd.string 9 wc w.heap.size (fun k_ => some k_ ≠ ((.slice Ao41 t575.length co41) : Value).ownBlock) (.slice Ao51 t592.length co51) t592) ∧ Aside0 (Kd.N k50 50 wc w.heap.size (fun k_ => some k_ ≠ ((.slice Ao40 t570.length co40) : Value).ownBlock ∧ some k_ ≠ ((.slice Ao41 t575.length co41) : Value).ownBlock ∧ some k_ ≠ ((.slice Ao42 t578.length co42) : Value).ownBlock ∧ some k_ ≠ ((.slice Ao50 t587.length co50) : Value).ownBlock ∧ some k_ ≠ ((.slice Ao51 t592.length co51) : Value).ownBlock ∧ k_ ≠ gb583 ∧ k_ ≠ gb600) (.slice Ao52 t595.length co52) t595) ∧ Aside0 (wc.heap[gb583]? = some (.cells #[.int .i64 t567, .bool t568, .bool t569, (.slice Ao40 t570.length co40), .int .i64 t573, .string t574, (.slice Ao41 t575.length co41), (.slice Ao42 t578.length co42)] 50 (0, 0))) ∧ Aside0 (wc.heap[gb600]? = some (.cells #[.int .i64 t584, .bool t585, .bool t586, (.slice Ao50 t587.length co50), .int .i64 t590, .string t591, (.slice Ao51 t592.length co51), (.slice Ao52 t595.length co52)] 50 (0, 0))) ∧ Aside0 (Below w.heap.size w wc))
            case first =>
             have H := HC25.out
             clear HC25
             by_cases c54 : (t582 != t599) = true
             ·rw [if_pos c54] at H
              have c54b0 : (t582 != t599) = true := c54
              (try (have c54b1 : decide (t582 = t599) = false := by simpa using c54))
              (try (have c54b2 : (t582 == t599) = false := by simpa using c54))
              (try (have c54b3 : ¬ (t582 = t599) := by simpa using c54))
              clear c54
              (first | rw [c54b0] | (simp only [i64_w, i32_w]; rw [c54b0]) | skip)
              have H' := Aside0.mk H
              clear H
              go_wp2
              go_meet
              case rel => exact ⟨_, (true), (by first | rfl | (simp; done) | (simp [*]; done)), H', ⟨by have := HK1.out; first | omega | exact Nat.le_refl _⟩, ⟨by (with_reducible repeat (first | apply Kd.R_alloc | apply Kd.R_drewN | apply Kd.R_drew)); exact Kd.R_mono HO572.out (fun _ hk => hk.2)⟩, ⟨by (with_reducible repeat (first | apply Kd.R_alloc | apply Kd.R_drewN | apply Kd.R_drew)); exact Kd.R_mono HO577.out (fun _ hk => hk.2)⟩, ⟨by (with_reducible repeat (first | apply Kd.N_alloc | apply Kd.N_drewN | apply Kd.N_drew)); exact Kd.N_mono HO580.out (fun _ hk => ⟨hk.1.1.1.1.2.2.1, ⟨hk.1.1.1.1.2.2.2.1, ⟨hk.1.1.1.2, ⟨hk.1.1.2, ⟨hk.1.2, ⟨hk.1.1.1.1.2.2.2.2, hk.2⟩⟩⟩⟩⟩⟩)⟩, ⟨by (with_reducible repeat (first | apply Kd.R_alloc | apply Kd.R_drewN | apply Kd.R_drew)); exact Kd.R_mono HO589.out (fun _ hk => hk.2)⟩, ⟨by (with_reducible repeat (first | apply Kd.R_alloc | apply Kd.R_drewN | apply Kd.R_drew)); exact Kd.R_mono HO594.out (fun _ hk => hk.2)⟩, ⟨by (with_reducible repeat (first | apply Kd.N_alloc | apply Kd.N_drewN | apply Kd.N_drew)); exact Kd.N_mono HO597.out (fun _ hk => ⟨hk.1.2.2.2.1, ⟨hk.1.2.2.2.2.1, ⟨hk.1.2.2.2.2.2.1, ⟨hk.1.1, ⟨hk.1.2.1, ⟨hk.1.2.2.2.2.2.2, hk.2⟩⟩⟩⟩⟩⟩)⟩, ⟨by (with_reducible repeat (first | refine blk_drewN ?_ _ | refine blk_drew ?_ | refine blk_alloc ?_ _)); exact BK583.out⟩, ⟨by (with_reducible repeat (first | refine blk_drewN ?_ _ | refine blk_drew ?_ | refine blk_alloc ?_ _)); exact BK600.out⟩, ⟨by repeat (first | (with_reducible first | exact HB.out | apply below_alloc | apply pw_below_drewN | apply below_drew1 | refine below_set ?_ GE583.out | refine below_set ?_ GE600.out) | exact HB.out)⟩⟩
             ·rw [if_neg c54] at H
              have c54b0 : (t582 != t599) = false := by simpa using c54
              (try (have c54b1 : decide (t582 = t599) = true := by simpa using c54))
              (try (have c54b2 : (t582 == t599) = true := by simpa using c54))
              clear c54
              (first | rw [c54b0] | (simp only [i64_w, i32_w]; rw [c54b0]) | skip)
              by_cases c55 : (t582 == t602) = true
              ·rw [if_pos c55] at H
               have c55b0 : (t582 == t602) = true := c55
               (try (have c55b1 : decide (t582 = t602) = true := by simpa using c55))
               (try (have c55b2 : (t582 == t602) = true := by simpa using c55))
               clear c55
               have H' := Aside0.mk H
               clear H
               go_wp2
               go_meet
               case rel => exact ⟨_, (true), (by first | rfl | (simp; done) | (simp [*]; done)), H', ⟨by have := HK1.out; first | omega | exact Nat.le_refl _⟩, ⟨by (with_reducible repeat (first | apply Kd.R_alloc | apply Kd.R_drewN | apply Kd.R_drew)); exact Kd.R_mono HO572.out (fun _ hk => hk.2)⟩, ⟨by (with_reducible repeat (first | apply Kd.R_alloc | apply Kd.R_drewN | apply Kd.R_drew)); exact Kd.R_mono HO577.out (fun _ hk => hk.2)⟩, ⟨by (with_reducible repeat (first | apply Kd.N_alloc | apply Kd.N_drewN | apply Kd.N_drew)); exact Kd.N_mono HO580.out (fun _ hk => ⟨hk.1.1.1.1.2.2.1, ⟨hk.1.1.1.1.2.2.2.1, ⟨hk.1.1.1.2, ⟨hk.1.1.2, ⟨hk.1.2, ⟨hk.1.1.1.1.2.2.2.2, hk.2⟩⟩⟩⟩⟩⟩)⟩, ⟨by (with_reducible repeat (first | apply Kd.R_alloc | apply Kd.R_drewN | apply Kd.R_drew)); exact Kd.R_mono HO589.out (fun _ hk => hk.2)⟩, ⟨by (with_reducible repeat (first | apply Kd.R_alloc | apply Kd.R_drewN | apply Kd.R_drew)); exact Kd.R_mono HO594.out (fun _ hk => hk.2)⟩, ⟨by (with_reducible repeat (first | apply Kd.N_alloc | apply Kd.N_drewN | apply Kd.N_drew)); exact Kd.N_mono HO597.out (fun _ hk => ⟨hk.1.2.2.2.1, ⟨hk.1.2.2.2.2.1, ⟨hk.1.2.2.2.2.2.1, ⟨hk.1.1, ⟨hk.1.2.1, ⟨hk.1.2.2.2.2.2.2, hk.2⟩⟩⟩⟩⟩⟩)⟩, ⟨by (with_reducible repeat (first | refine blk_drewN ?_ _ | refine blk_drew ?_ | refine blk_alloc ?_ _)); exact BK583.out⟩, ⟨by (with_reducible repeat (first | refine blk_drewN ?_ _ | refine blk_drew ?_ | refine blk_alloc ?_ _)); exact BK600.out⟩, ⟨by repeat (first | (with_reducible first | exact HB.out | apply below_alloc | apply pw_below_drewN | apply below_drew1 | refine below_set ?_ GE583.out | refine below_set ?_ GE600.out) | exact HB.out)⟩⟩
              ·rw [if_neg c55] at H
               have c55b0 : (t582 == t602) = false := by simpa using c55
               (try (have c55b1 : decide (t582 = t602) = false := by simpa using c55))
               (try (have c55b2 : (t582 == t602) = false := by simpa using c55))
               (try (have c55b3 : ¬ (t582 = t602) := by simpa using c55))
               clear c55
               have H' := Aside0.mk H
               clear H
               go_wp2
               go_meet
               case rel => exact ⟨_, ((t581 != t601)), (by first | rfl | (simp; done) | (simp [*]; done)), H', ⟨by have := HK1.out; first | omega | exact Nat.le_refl _⟩, ⟨by (with_reducible repeat (first | apply Kd.R_alloc | apply Kd.R_drewN | apply Kd.R_drew)); exact Kd.R_mono HO572.out (fun _ hk => hk.2)⟩, ⟨by (with_reducible repeat (first | apply Kd.R_alloc | apply Kd.R_drewN | apply Kd.R_drew)); exact Kd.R_mono HO577.out (fun _ hk => hk.2)⟩, ⟨by (with_reducible repeat (first | apply Kd.N_alloc | apply Kd.N_drewN | apply Kd.N_drew)); exact Kd.N_mono HO580.out (fun _ hk => ⟨hk.1.1.1.1.2.2.1, ⟨hk.1.1.1.1.2.2.2.1, ⟨hk.1.1.1.2, ⟨hk.1.1.2, ⟨hk.1.2, ⟨hk.1.1.1.1.2.2.2.2, hk.2⟩⟩⟩⟩⟩⟩)⟩, ⟨by (with_reducible repeat (first | apply Kd.R_alloc | apply Kd.R_drewN | apply Kd.R_drew)); exact Kd.R_mono HO589.out (fun _ hk => hk.2)⟩, ⟨by (with_reducible repeat (first | apply Kd.R_alloc | apply Kd.R_drewN | apply Kd.R_drew)); exact Kd.R_mono HO594.out (fun _ hk => hk.2)⟩, ⟨by (with_reducible repeat (first | apply Kd.N_alloc | apply Kd.N_drewN | apply Kd.N_drew)); exact Kd.N_mono HO597.out (fun _ hk => ⟨hk.1.2.2.2.1, ⟨hk.1.2.2.2.2.1, ⟨hk.1.2.2.2.2.2.1, ⟨hk.1.1, ⟨hk.1.2.1, ⟨hk.1.2.2.2.2.2.2, hk.2⟩⟩⟩⟩⟩⟩)⟩, ⟨by (with_reducible repeat (first | refine blk_drewN ?_ _ | refine blk_drew ?_ | refine blk_alloc ?_ _)); exact BK583.out⟩, ⟨by (with_reducible repeat (first | refine blk_drewN ?_ _ | refine blk_drew ?_ | refine blk_alloc ?_ _)); exact BK600.out⟩, ⟨by repeat (first | (with_reducible first | exact HB.out | apply below_alloc | apply pw_below_drewN | apply below_drew1 | refine below_set ?_ GE583.out | refine below_set ?_ GE600.out) | exact HB.out)⟩⟩
            case rest =>
             clear HC25
             try clear c1
             try clear c2
             try clear p2
             try clear q2
             try clear c3
             try clear q3
             try clear c4
             try clear c5
             try clear p5
             try clear q5
             try clear hx5
             try clear c6
             try clear c6b0
             try clear p6
             try clear c7
             try clear c7b0
             try clear c8
             try clear c9
             try clear c10
             try clear c10b0
             try clear c10b1
             try clear c11
             try clear c11b0
             try clear c11b1
             try clear c12
             try clear c13
             try clear c13b0
             try clear c14
             try clear c14b0
             try clear c15
             try clear c16
             try clear c16b0
             try clear c17
             try clear c17b0
             try clear c17b1
             try clear c18
             try clear c19
             try clear c19b0
             try clear c20
             try clear c20b0
             try clear c21
             try clear c23
             try clear c27
             try clear q27
             try clear q28
             try clear c32
             try clear q32
             try clear q34
             try clear c48
             try clear p53
             try clear q53
             try clear hx53
             try clear c54
             try clear c54b0
             try clear c54b1
             try clear c54b2
             try clear c55
             try clear c55b0
             try clear c55b1
             try clear c55b2
             try clear hcz39_0
             try clear hcz39_1
             try clear hcz39_2
             try clear hcz39_3
             try clear hcz39_4
             try clear hcz39_5
             try clear hcz39_6
             try clear hcz39_7
             try clear hcz49_0
             try clear hcz49_1
             try clear hcz49_2
             try clear hcz49_3
             try clear hcz49_4
             try clear hcz49_5
             try clear hcz49_6
             try clear hcz49_7
             try clear hfz39_0
             try clear hfz39_1
             try clear hfz39_2
             try clear hfz39_3
             try clear hfz39_4
             try clear hfz39_5
             try clear hfz39_6
             try clear hfz39_7
             try clear hfz49_0
             try clear hfz49_1
             try clear hfz49_2
             try clear hfz49_3
             try clear hfz49_4
             try clear hfz49_5
             try clear hfz49_6
             try clear hfz49_7
             try clear hx533_0
             try clear p2
             try clear p533
             try clear q027
             try clear q032
             try clear q27
             try clear q28
             try clear q32
             try clear q34
             try clear q533
             obtain ⟨kq, x91_24, rfl, HA, HJ24, HO_584003, HO_584006, HO_584007, HO_601003, HO_601006, HO_601007, BK583, BK600, HB⟩ := hcut
             cases kq with
             | zero => exact absurd HA.out (by simp [erratumlaw06_OrderObjects.j1])
             | succ kj24 =>
              have H := HA.out
              clear HA
              simp only [erratumlaw06_OrderObjects.j1] at H
              by_cases c56 : x91_24 = true
              ·subst c56
               have H1 : (some false) = some true := by rw [if_pos rfl] at H; exact H
               clear H
               have H := H1
               clear H1
               exact absurd (Option.some.inj H) (by decide)
              ·replace c56 := Bool.eq_false_iff.mpr c56
               subst c56
               have H1 : (erratumlaw06_OrderObjects.l1 kj24 l0 t582 0 t567 t568 t569 t570 t573 t574 t575 t578 t584 t585 t586 t587 t590 t591 t592 t595) = some true := by rw [if_neg (show ¬ (false = true) by decide)] at H; exact H
               clear H
               have H := H1
               clear H1
               have H' := Aside0.mk H
               clear H
               go_wp2
               go_loopg [18] kj24 (fun kq v18 w' => ∃ (x18_3 : Int), v18 = .int .i64 x18_3 ∧ Aside0 (erratumlaw06_OrderObjects.l1 kq l0 t582 x18_3 t567 t568 t569 t570 t573 t574 t575 t578 t584 t585 t586 t587 t590 t591 t592 t595 = some true) ∧ Aside0 (kq ≤ kj24) ∧ Aside0 (Kd.R (Kd.int .u32) 78 w' w.heap.size (fun k_ => some k_ ≠ ((.slice Ao50 t587.length co50) : Value).ownBlock) (.slice Ao40 t570.length co40) t570) ∧ Aside0 (Kd.R Kd.string 9 w' w.heap.size (fun k_ => some k_ ≠ ((.slice Ao51 t592.length co51) : Value).ownBlock) (.slice Ao41 t575.length co41) t575) ∧ Aside0 (Kd.N k50 50 w' w.heap.size (fun k_ => some k_ ≠ ((.slice Ao40 t570.length co40) : Value).ownBlock ∧ some k_ ≠ ((.slice Ao41 t575.length co41) : Value).ownBlock ∧ some k_ ≠ ((.slice Ao50 t587.length co50) : Value).ownBlock ∧ some k_ ≠ ((.slice Ao51 t592.length co51) : Value).ownBlock ∧ some k_ ≠ ((.slice Ao52 t595.length co52) : Value).ownBlock ∧ k_ ≠ gb583 ∧ k_ ≠ gb600) (.slice Ao42 t578.length co42) t578) ∧ Aside0 (Kd.R (Kd.int .u32) 78 w' w.heap.size (fun k_ => some k_ ≠ ((.slice Ao40 t570.length co40) : Value).ownBlock) (.slice Ao50 t587.length co50) t587) ∧ Aside0 (Kd.R Kd.string 9 w' w.heap.size (fun k_ => some k_ ≠ ((.slice Ao41 t575.length co41) : Value).ownBlock) (.slice Ao51 t592.length co51) t592) ∧ Aside0 (Kd.N k50 50 w' w.heap.size (fun k_ => some k_ ≠ ((.slice Ao40 t570.length co40) : Value).ownBlock ∧ some k_ ≠ ((.slice Ao41 t575.length co41) : Value).ownBlock ∧ some k_ ≠ ((.slice Ao42 t578.length co42) : Value).ownBlock ∧ some k_ ≠ ((.slice Ao50 t587.length co50) : Value).ownBlock ∧ some k_ ≠ ((.slice Ao51 t592.length co51) : Value).ownBlock ∧ k_ ≠ gb583 ∧ k_ ≠ gb600) (.slice Ao52 t595.length co52) t595) ∧ Aside0 (w'.heap[gb583]? = some (.cells #[.int .i64 t567, .bool t568, .bool t569, (.slice Ao40 t570.length co40), .int .i64 t573, .string t574, (.slice Ao41 t575.length co41), (.slice Ao42 t578.length co42)] 50 (0, 0))) ∧ Aside0 (w'.heap[gb600]? = some (.cells #[.int .i64 t584, .bool t585, .bool t586, (.slice Ao50 t587.length co50), .int .i64 t590, .string t591, (.slice Ao51 t592.length co51), (.slice Ao52 t595.length co52)] 50 (0, 0))) ∧ Aside0 (Below w.heap.size w w'))
               case atStart => exact ⟨(0), (by first | rfl | (simp; done) | (simp [*]; done)), H', ⟨Nat.le_refl _⟩, ⟨by (with_reducible repeat (first | apply Kd.R_alloc | apply Kd.R_drewN | apply Kd.R_drew)); exact HO_584003.out⟩, ⟨by (with_reducible repeat (first | apply Kd.R_alloc | apply Kd.R_drewN | apply Kd.R_drew)); exact HO_584006.out⟩, ⟨by (with_reducible repeat (first | apply Kd.N_alloc | apply Kd.N_drewN | apply Kd.N_drew)); exact HO_584007.out⟩, ⟨by (with_reducible repeat (first | apply Kd.R_alloc | apply Kd.R_drewN | apply Kd.R_drew)); exact HO_601003.out⟩, ⟨by (with_reducible repeat (first | apply Kd.R_alloc | apply Kd.R_drewN | apply Kd.R_drew)); exact HO_601006.out⟩, ⟨by (with_reducible repeat (first | apply Kd.N_alloc | apply Kd.N_drewN | apply Kd.N_drew)); exact HO_601007.out⟩, ⟨by (with_reducible repeat (first | refine blk_drewN ?_ _ | refine blk_drew ?_ | refine blk_alloc ?_ _)); exact BK583.out⟩, ⟨by (with_reducible repeat (first | refine blk_drewN ?_ _ | refine blk_drew ?_ | refine blk_alloc ?_ _)); exact BK600.out⟩, ⟨by repeat (first | (with_reducible first | exact HB.out | apply below_alloc | apply pw_below_drewN | apply below_drew1 | refine below_set ?_ GE583.out | refine below_set ?_ GE600.out) | exact HB.out)⟩⟩
               case round =>
                clear H'
                try clear c1
                try clear c2
                try clear p2
                try clear q2
                try clear c3
                try clear q3
                try clear c4
                try clear c5
                try clear p5
                try clear q5
                try clear hx5
                try clear c6
                try clear c6b0
                try clear p6
                try clear c7
                try clear c7b0
                try clear c8
                try clear c9
                try clear c10
                try clear c10b0
                try clear c10b1
                try clear c11
                try clear c11b0
                try clear c11b1
                try clear c12
                try clear c13
                try clear c13b0
                try clear c14
                try clear c14b0
                try clear c15
                try clear c16
                try clear c16b0
                try clear c17
                try clear c17b0
                try clear c17b1
                try clear c18
                try clear c19
                try clear c19b0
                try clear c20
                try clear c20b0
                try clear c21
                try clear c23
                try clear c27
                try clear q27
                try clear q28
                try clear c32
                try clear q32
                try clear q34
                try clear c48
                try clear p53
                try clear q53
                try clear hx53
                try clear c54
                try clear c54b0
                try clear c54b1
                try clear c54b2
                try clear c55
                try clear c55b0
                try clear c55b1
                try clear c55b2
                try clear c56
                try clear hcz39_0
                try clear hcz39_1
                try clear hcz39_2
                try clear hcz39_3
                try clear hcz39_4
                try clear hcz39_5
                try clear hcz39_6
                try clear hcz39_7
                try clear hcz49_0
                try clear hcz49_1
                try clear hcz49_2
                try clear hcz49_3
                try clear hcz49_4
                try clear hcz49_5
                try clear hcz49_6
                try clear hcz49_7
                try clear hfz39_0
                try clear hfz39_1
                try clear hfz39_2
                try clear hfz39_3
                try clear hfz39_4
                try clear hfz39_5
                try clear hfz39_6
                try clear hfz39_7
                try clear hfz49_0
                try clear hfz49_1
                try clear hfz49_2
                try clear hfz49_3
                try clear hfz49_4
                try clear hfz49_5
                try clear hfz49_6
                try clear hfz49_7
                try clear hx533_0
                try clear p2
                try clear p5
                try clear p53
                try clear p533
                try clear p6
                try clear q027
                try clear q032
                try clear q2
                try clear q27
                try clear q28
                try clear q3
                try clear q32
                try clear q34
                try clear q5
                try clear q53
                try clear q533
                obtain ⟨x18_3, rfl, HA, HK3, HO_584003, HO_584006, HO_584007, HO_601003, HO_601006, HO_601007, BK583, BK600, HB⟩ := hrel
                cases gk with
                | zero => exact absurd HA.out (by simp [erratumlaw06_OrderObjects.l1])
                | succ k3 =>
                 have H := HA.out
                 clear HA
                 simp only [erratumlaw06_OrderObjects.l1] at H
                 by_cases c57 : x18_3 < (t575.length : Int)
                 ·rw [if_pos c57] at H
                  have c57b0 : decide (x18_3 < (t575.length : Int)) = true := decide_eq_true c57
                  clear c57
                  by_cases c58 : x18_3 > 0
                  ·rw [if_pos c58] at H
                   have c58b0 : decide (0 < x18_3) = true := decide_eq_true c58
                   clear c58
                   by_cases c59 : 0 ≤ x18_3
                   ·rw [if_pos c59] at H
                    have c59b0 : decide (0 ≤ x18_3) = true := decide_eq_true c59
                    clear c59
                    obtain ⟨ji60, hji60⟩ : ∃ j_ : Int, (wrap64 (x18_3 - 1)) = j_ := ⟨_, rfl⟩
                    replace H : (if 0 ≤ (ji60) then (if (ji60) < (t575.length : Int) then (if ((Op.bytesLess ((rdOf ByteArray.empty t575 (ji60)).toList) ((rdOf ByteArray.empty t575 x18_3).toList)) = true) then (if x18_3 ≥ (t578.length : Int) then (some false) else (if x18_3 < (t578.length : Int) then (if ((rd_T50 t578 x18_3).f3).toList = (rdOf ByteArray.empty t575 x18_3).toList then (erratumlaw06_OrderObjects.l1 k3 l0 t582 (wrap64 (x18_3 + 1)) t567 t568 t569 t570 t573 t574 t575 t578 t584 t585 t586 t587 t590 t591 t592 t595) else (some false)) else (none))) else (some false)) else (none)) else (none)) = some true := by first | (rw [hji60] at H; exact H) | (simp only [hji60] at H ⊢; exact H)
                    have hji60w : (IntKind.i64.wrap (x18_3 - 1)) = ji60 := (i64_w _).trans hji60
                    by_cases c61 : 0 ≤ (ji60)
                    ·rw [if_pos c61] at H
                     have c61b0 : decide (0 ≤ (ji60)) = true := decide_eq_true c61
                     clear c61
                     by_cases c62 : (ji60) < (t575.length : Int)
                     ·rw [if_pos c62] at H
                      have c62b0 : decide ((ji60) < (t575.length : Int)) = true := decide_eq_true c62
                      clear c62
                      by_cases c63 : ((Op.bytesLess ((rdOf ByteArray.empty t575 (ji60)).toList) ((rdOf ByteArray.empty t575 x18_3).toList)) = true)
                      ·rw [if_pos c63] at H
                       have c63b0 : (Op.bytesLess ((rdOf ByteArray.empty t575 (ji60)).toList) ((rdOf ByteArray.empty t575 x18_3).toList)) = true := c63
                       have c63b2 : Op.bytesLess ((rdOf ByteArray.empty t575 x18_3).toList) ((rdOf ByteArray.empty t575 (ji60)).toList) = false := bl_A _ _ c63b0
                       have c63b3 : ((rdOf ByteArray.empty t575 x18_3).toList == (rdOf ByteArray.empty t575 (ji60)).toList) = false := beq_eq_false_iff_ne.2 (fun e => by rw [e, bl_irr] at c63b0; cases c63b0)
                       clear c63
                       by_cases c64 : x18_3 ≥ (t578.length : Int)
                       ·rw [if_pos c64] at H
                        have c64b0 : decide ((t578.length : Int) ≤ x18_3) = true := decide_eq_true c64
                        clear c64
                        exact absurd (Option.some.inj H) (by decide)
                       ·rw [if_neg c64] at H
                        have c64b0 : decide ((t578.length : Int) ≤ x18_3) = false := decide_eq_false c64
                        clear c64
                        by_cases c68 : x18_3 < (t578.length : Int)
                        ·rw [if_pos c68] at H
                         have c68b0 : decide (x18_3 < (t578.length : Int)) = true := decide_eq_true c68
                         clear c68
                         by_cases c69 : ((rd_T50 t578 x18_3).f3).toList = (rdOf ByteArray.empty t575 x18_3).toList
                         ·rw [if_pos c69] at H
                          have c69b0 : (((rd_T50 t578 x18_3).f3).toList == (rdOf ByteArray.empty t575 x18_3).toList) = true := beq_iff_eq.mpr c69
                          have c69b1 : (((rd_T50 t578 x18_3).f3).toList != (rdOf ByteArray.empty t575 x18_3).toList) = false := bne_eq_false_iff_eq.mpr c69
                          clear c69
                          have H' := Aside0.mk H
                          clear H
                          have hnb70 := NB583_600.out
                          have hnc70 := NB600_583.out
                          have hcz71_0 : wr.cell? ⟨gb583, 0, none⟩ = some (.int .i64 t567) := (blk_cell BK583.out 0).trans rfl
                          have hcz71_1 : wr.cell? ⟨gb583, 1, none⟩ = some (.bool t568) := (blk_cell BK583.out 1).trans rfl
                          have hcz71_2 : wr.cell? ⟨gb583, 2, none⟩ = some (.bool t569) := (blk_cell BK583.out 2).trans rfl
                          have hcz71_3 : wr.cell? ⟨gb583, 3, none⟩ = some (.slice Ao40 t570.length co40) := (blk_cell BK583.out 3).trans rfl
                          have hcz71_4 : wr.cell? ⟨gb583, 4, none⟩ = some (.int .i64 t573) := (blk_cell BK583.out 4).trans rfl
                          have hcz71_5 : wr.cell? ⟨gb583, 5, none⟩ = some (.string t574) := (blk_cell BK583.out 5).trans rfl
                          have hcz71_6 : wr.cell? ⟨gb583, 6, none⟩ = some (.slice Ao41 t575.length co41) := (blk_cell BK583.out 6).trans rfl
                          have hcz71_7 : wr.cell? ⟨gb583, 7, none⟩ = some (.slice Ao42 t578.length co42) := (blk_cell BK583.out 7).trans rfl
                          have hfz71_0 := blk_frozen BK583.out 0
                          have hfz71_1 := blk_frozen BK583.out 1
                          have hfz71_2 := blk_frozen BK583.out 2
                          have hfz71_3 := blk_frozen BK583.out 3
                          have hfz71_4 := blk_frozen BK583.out 4
                          have hfz71_5 := blk_frozen BK583.out 5
                          have hfz71_6 := blk_frozen BK583.out 6
                          have hfz71_7 := blk_frozen BK583.out 7
                          try go_wp2
                          have n0_ := Aside0.mk (Kd.R_drew HO_584003.out)
                          have n1_ := Aside0.mk (Kd.R_drew HO_584006.out)
                          have n2_ := Aside0.mk (Kd.N_drew HO_584007.out)
                          have n3_ := Aside0.mk (Kd.R_drew HO_601003.out)
                          have n4_ := Aside0.mk (Kd.R_drew HO_601006.out)
                          have n5_ := Aside0.mk (Kd.N_drew HO_601007.out)
                          have n6_ := Aside0.mk (blk_drew BK583.out)
                          have n7_ := Aside0.mk (blk_drew BK600.out)
                          have n8_ := Aside0.mk (below_drew1 HB.out)
                          clear HO_584003
                          clear HO_584006
                          clear HO_584007
                          clear HO_601003
                          clear HO_601006
                          clear HO_601007
                          clear BK583
                          clear BK600
                          clear HB
                          have HO_584003 := n0_
                          have HO_584006 := n1_
                          have HO_584007 := n2_
                          have HO_601003 := n3_
                          have HO_601006 := n4_
                          have HO_601007 := n5_
                          have BK583 := n6_
                          have BK600 := n7_
                          have HB := n8_
                          clear n0_ n1_ n2_ n3_ n4_ n5_ n6_ n7_ n8_
                          have p603 : 0 ≤ (x18_3 : Int) := of_decide_eq_true (by first | (with_reducible assumption) | assumption)
                          have q603 : x18_3 < (t575.length : Int) := of_decide_eq_true (by first | (with_reducible assumption) | assumption)
                          obtain ⟨ad603, e603, hx603_0⟩ := Kd.at_string (Kd.R_reads' HO_584006.out).2.2 x18_3 p603 q603
                          cases e603
                          replace p603 := eq_true p603
                          replace q603 := eq_true q603
                          have p604 : 0 ≤ ((ji60) : Int) := of_decide_eq_true (by first | (with_reducible assumption) | assumption)
                          have q604 : (ji60) < (t575.length : Int) := of_decide_eq_true (by first | (with_reducible assumption) | assumption)
                          obtain ⟨ad604, e604, hx604_0⟩ := Kd.at_string (Kd.R_reads' HO_584006.out).2.2 (ji60) p604 q604
                          obtain rfl : ad603 = ad604 := (by injection e604)
                          replace p604 := eq_true p604
                          replace q604 := eq_true q604
                          have p605 : 0 ≤ (x18_3 : Int) := of_decide_eq_true (by first | (with_reducible assumption) | assumption)
                          have q605 : x18_3 < (t578.length : Int) := of_decide_eq_true (by first | (with_reducible assumption) | assumption)
                          obtain ⟨ad605, A605_3, c605_3, A605_6, c605_6, A605_7, c605_7, e605, hx605_0, hx605_1, hx605_2, hx605_3, hx605_4, hx605_5, hx605_6, hx605_7, hl605_3, hi605_3, hl605_6, hi605_6, hl605_7, hi605_7⟩ := at_T50 (Kd.N_reads' HO_584007.out).2.2 x18_3 p605 q605
                          cases e605
                          obtain ⟨ce605, hce605, hMe605, hcc605⟩ := Kd.N_get HO_584007.out z50 x18_3 p605 (by first | exact q605 | exact of_decide_eq_true (by first | (with_reducible assumption) | assumption) | (have e_ := (Kd.N_reads' HO_584007.out).1; omega))
                          obtain ⟨ua605_3, uc605_3, ua605_6, uc605_6, ua605_7, uc605_7, rfl, ul605_3, ge605_3, ul605_6, ge605_6, ul605_7, ge605_7⟩ := k50_openF hMe605
                          have hv605_3 := hcc605 3 _ rfl
                          rw [add_field _ _ 3 (by omega)] at hv605_3
                          replace hv605_3 := Option.some.inj (hv605_3.symm.trans hx605_3)
                          injection hv605_3 with hva_ hvn_ hvc_
                          rw [hva_] at ge605_3
                          rw [hvc_] at ul605_3
                          have HL605_3 := Aside0.mk (show Kd.V (Kd.int .u32) 78 _ w.heap.size _ _ ((rd_T50 t578 x18_3).f2.f1) from Kd.V_mk ul605_3 ge605_3)
                          clear hva_ hvn_ hvc_ ge605_3 ul605_3
                          have hv605_6 := hcc605 6 _ rfl
                          rw [add_field _ _ 6 (by omega)] at hv605_6
                          replace hv605_6 := Option.some.inj (hv605_6.symm.trans hx605_6)
                          injection hv605_6 with hva_ hvn_ hvc_
                          rw [hva_] at ge605_6
                          rw [hvc_] at ul605_6
                          have HL605_6 := Aside0.mk (show Kd.V Kd.string 9 _ w.heap.size _ _ ((rd_T50 t578 x18_3).f4) from Kd.V_mk ul605_6 ge605_6)
                          clear hva_ hvn_ hvc_ ge605_6 ul605_6
                          have hv605_7 := hcc605 7 _ rfl
                          rw [add_field _ _ 7 (by omega)] at hv605_7
                          replace hv605_7 := Option.some.inj (hv605_7.symm.trans hx605_7)
                          injection hv605_7 with hva_ hvn_ hvc_
                          rw [hva_] at ge605_7
                          rw [hvc_] at ul605_7
                          have HL605_7 := Aside0.mk (show Kd.V k50 50 _ w.heap.size _ _ ((rd_T50 t578 x18_3).f5) from Kd.V_mk ul605_7 ge605_7)
                          clear hva_ hvn_ hvc_ ge605_7 ul605_7
                          clear hcc605 hce605
                          have HR605_3 := Aside0.mk hi605_3
                          have HC605_3 := Aside0.mk hl605_3
                          clear hi605_3 hl605_3
                          have HR605_6 := Aside0.mk hi605_6
                          have HC605_6 := Aside0.mk hl605_6
                          clear hi605_6 hl605_6
                          have HR605_7 := Aside0.mk hi605_7
                          have HC605_7 := Aside0.mk hl605_7
                          clear hi605_7 hl605_7
                          replace p605 := eq_true p605
                          replace q605 := eq_true q605
                          have p606 : 0 ≤ (x18_3 : Int) := of_decide_eq_true (by first | (with_reducible assumption) | assumption)
                          have q606 : x18_3 < (t575.length : Int) := of_decide_eq_true (by first | (with_reducible assumption) | assumption)
                          obtain ⟨ad606, e606, hx606_0⟩ := Kd.at_string (Kd.R_reads' HO_584006.out).2.2 x18_3 p606 q606
                          obtain rfl : ad603 = ad606 := (by injection e606)
                          replace p606 := eq_true p606
                          replace q606 := eq_true q606
                          refine start_ (n := 37) (S := fun w' => w'.cell? ⟨gb583, 0, none⟩ = some (.int .i64 t567) ∧ w'.cell? ⟨gb583, 1, none⟩ = some (.bool t568) ∧ w'.cell? ⟨gb583, 2, none⟩ = some (.bool t569) ∧ w'.cell? ⟨gb583, 3, none⟩ = some (.slice Ao40 t570.length co40) ∧ w'.cell? ⟨gb583, 4, none⟩ = some (.int .i64 t573) ∧ w'.cell? ⟨gb583, 5, none⟩ = some (.string t574) ∧ w'.cell? ⟨gb583, 6, none⟩ = some (.slice (some ad603) t575.length co41) ∧ w'.cell? ⟨gb583, 7, none⟩ = some (.slice (some ad605) t578.length co42) ∧ w'.cell? (ad603.add (x18_3).toNat) = some (.string (rdOf ByteArray.empty t575 x18_3)) ∧ w'.cell? (ad603.add ((ji60)).toNat) = some (.string (rdOf ByteArray.empty t575 (ji60))) ∧ w'.cell? (ad605.add ((x18_3).toNat * 8)) = some (.int .i64 ((rd_T50 t578 x18_3).f0)) ∧ w'.cell? ⟨(ad605.add ((x18_3).toNat * 8)).block, (ad605.add ((x18_3).toNat * 8)).off + 1, none⟩ = some (.bool ((rd_T50 t578 x18_3).f1)) ∧ w'.cell? ⟨(ad605.add ((x18_3).toNat * 8)).block, (ad605.add ((x18_3).toNat * 8)).off + 2, none⟩ = some (.bool ((rd_T50 t578 x18_3).f2.f0)) ∧ w'.cell? ⟨(ad605.add ((x18_3).toNat * 8)).block, (ad605.add ((x18_3).toNat * 8)).off + 3, none⟩ = some (.slice A605_3 ((rd_T50 t578 x18_3).f2.f1).length c605_3) ∧ w'.cell? ⟨(ad605.add ((x18_3).toNat * 8)).block, (ad605.add ((x18_3).toNat * 8)).off + 4, none⟩ = some (.int .i64 ((rd_T50 t578 x18_3).f2.f2)) ∧ w'.cell? ⟨(ad605.add ((x18_3).toNat * 8)).block, (ad605.add ((x18_3).toNat * 8)).off + 5, none⟩ = some (.string ((rd_T50 t578 x18_3).f3)) ∧ w'.cell? ⟨(ad605.add ((x18_3).toNat * 8)).block, (ad605.add ((x18_3).toNat * 8)).off + 6, none⟩ = some (.slice A605_6 ((rd_T50 t578 x18_3).f4).length c605_6) ∧ w'.cell? ⟨(ad605.add ((x18_3).toNat * 8)).block, (ad605.add ((x18_3).toNat * 8)).off + 7, none⟩ = some (.slice A605_7 ((rd_T50 t578 x18_3).f5).length c605_7) ∧ w'.cell? (ad603.add (x18_3).toNat) = some (.string (rdOf ByteArray.empty t575 x18_3))) (ds := []) #[false, false, false, false, false, false, false, false, false, false, false, false, false, false, false, false, false, false, false, false, false, false, false, false, false, false, false, false, false, false, false, false, false, false, false, false, false] (by kernel_rfl) rfl rfl ⟨(blk_cell BK583.out 0).trans rfl, (blk_cell BK583.out 1).trans rfl, (blk_cell BK583.out 2).trans rfl, (blk_cell BK583.out 3).trans rfl, (blk_cell BK583.out 4).trans rfl, (blk_cell BK583.out 5).trans rfl, (blk_cell BK583.out 6).trans rfl, (blk_cell BK583.out 7).trans rfl, hx603_0, hx604_0, hx605_0, hx605_1, hx605_2, hx605_3, hx605_4, hx605_5, hx605_6, hx605_7, hx606_0⟩ (fun hHeld => ?_); refine with_tabW erratumlaw06_OrderObjects.tab20 erratumlaw06_OrderObjects.bits20 (fun HT_ HW_ => ?_)
                          generalize wr.drew = w72 at HO_584003 HO_584006 HO_584007 HO_601003 HO_601006 HO_601007 BK583 BK600 HB HL605_3 HL605_6 HL605_7 HR605_3 HR605_6 HR605_7 hx603_0 hx604_0 hx605_0 hx605_1 hx605_2 hx605_3 hx605_4 hx605_5 hx605_6 hx605_7 hx606_0 hHeld ⊢
                          refine pure_ (i := 0) (N := some 99) (v := ?_) (a' := ?_) #[true, false, false, false, false, false, false, false, false, false, false, false, false, false, false, false, false, false, false, false, false, false, false, false, false, false, false, false, false, false, false, false, false, false, false, false, false] rfl rfl (any_of HT_.out (by kernel_rfl)) (fun _ _ _ h => h) (Or.inl ⟨by rfl, ?_⟩) ?_ ?_
                          rotate_left
                          ·intro w'
                           go_simp
                           with_reducible rfl
                          rotate_left
                          ·simp only [Act.put, List.setIfInBounds_toArray, List.set_cons_zero, List.set_cons_succ, i64_w, i32_w]
                           rfl
                          refine pure_ (i := 1) (N := some 100) (v := ?_) (a' := ?_) #[true, true, false, false, false, false, false, false, false, false, false, false, false, false, false, false, false, false, false, false, false, false, false, false, false, false, false, false, false, false, false, false, false, false, false, false, false] rfl rfl (any_of HT_.out (by kernel_rfl)) (fun _ _ _ h => h) (Or.inl ⟨by rfl, ?_⟩) ?_ ?_
                          rotate_left
                          ·intro w'
                           go_simp
                           with_reducible rfl
                          rotate_left
                          ·simp only [Act.put, List.setIfInBounds_toArray, List.set_cons_zero, List.set_cons_succ, i64_w, i32_w]
                           rfl
                          refine pure_ (i := 2) (N := some 101) (v := ?_) (a' := ?_) #[true, true, true, false, false, false, false, false, false, false, false, false, false, false, false, false, false, false, false, false, false, false, false, false, false, false, false, false, false, false, false, false, false, false, false, false, false] rfl rfl (any_of HT_.out (by kernel_rfl)) (fun _ _ _ h => h) (Or.inl ⟨by rfl, ?_⟩) ?_ ?_
                          rotate_left
                          ·intro w'
                           go_simp
                           with_reducible rfl
                          rotate_left
                          ·simp only [Act.put, List.setIfInBounds_toArray, List.set_cons_zero, List.set_cons_succ, i64_w, i32_w]
                           rfl
                          refine pure_ (i := 3) (N := some 102) (v := ?_) (a' := ?_) #[true, true, true, true, false, false, false, false, false, false, false, false, false, false, false, false, false, false, false, false, false, false, false, false, false, false, false, false, false, false, false, false, false, false, false, false, false] rfl rfl (any_of HT_.out (by kernel_rfl)) (fun _ _ _ h => h) (Or.inl ⟨by rfl, ?_⟩) ?_ ?_
                          rotate_left
                          ·intro w'
                           go_simp
                           with_reducible rfl
                          rotate_left
                          ·simp only [Act.put, List.setIfInBounds_toArray, List.set_cons_zero, List.set_cons_succ, i64_w, i32_w]
                           rfl
                          refine pure_ (i := 5) (N := some 104) (v := ?_) (a' := ?_) #[true, true, true, true, false, true, false, false, false, false, false, false, false, false, false, false, false, false, false, false, false, false, false, false, false, false, false, false, false, false, false, false, false, false, false, false, false] rfl rfl (any_of HT_.out (by kernel_rfl)) (fun _ _ _ h => h) (Or.inl ⟨by rfl, ?_⟩) ?_ ?_
                          rotate_left
                          ·intro w'
                           go_simp
                           with_reducible rfl
                          rotate_left
                          ·simp only [Act.put, List.setIfInBounds_toArray, List.set_cons_zero, List.set_cons_succ, i64_w, i32_w]
                           rfl
                          refine pure_ (i := 8) (N := some 107) (v := ?_) (a' := ?_) #[true, true, true, true, false, true, false, false, true, false, false, false, false, false, false, false, false, false, false, false, false, false, false, false, false, false, false, false, false, false, false, false, false, false, false, false, false] rfl rfl (any_of HT_.out (by kernel_rfl)) (fun _ _ _ h => h) (Or.inl ⟨by rfl, ?_⟩) ?_ ?_
                          rotate_left
                          ·intro w'
                           go_simp
                           with_reducible rfl
                          rotate_left
                          ·simp only [Act.put, List.setIfInBounds_toArray, List.set_cons_zero, List.set_cons_succ, i64_w, i32_w]
                           rfl
                          refine pure_ (i := 10) (N := some 109) (v := ?_) (a' := ?_) #[true, true, true, true, false, true, false, false, true, false, true, false, false, false, false, false, false, false, false, false, false, false, false, false, false, false, false, false, false, false, false, false, false, false, false, false, false] rfl rfl (any_of HT_.out (by kernel_rfl)) (fun _ _ _ h => h) (Or.inl ⟨by rfl, ?_⟩) ?_ ?_
                          rotate_left
                          ·intro w'
                           go_simp
                           with_reducible rfl
                          rotate_left
                          ·simp only [Act.put, List.setIfInBounds_toArray, List.set_cons_zero, List.set_cons_succ, i64_w, i32_w]
                           rfl
                          refine pure_ (i := 11) (N := some 110) (v := ?_) (a' := ?_) #[true, true, true, true, false, true, false, false, true, false, true, true, false, false, false, false, false, false, false, false, false, false, false, false, false, false, false, false, false, false, false, false, false, false, false, false, false] rfl rfl (any_of HT_.out (by kernel_rfl)) (fun _ _ _ h => h) (Or.inl ⟨by rfl, ?_⟩) ?_ ?_
                          rotate_left
                          ·intro w'
                           go_simp
                           with_reducible rfl
                          rotate_left
                          ·simp only [Act.put, List.setIfInBounds_toArray, List.set_cons_zero, List.set_cons_succ, i64_w, i32_w]
                           rfl
                          refine take_ (i := 4) (N := some 103) (v := ?_) (a' := ?_) #[true, true, true, true, true, true, false, false, true, false, true, true, false, false, false, false, false, false, false, false, false, false, false, false, false, false, false, false, false, false, false, false, false, false, false, false, false] rfl rfl (take_ofW HT_.out HW_.out (by kernel_rfl)) (fun _ _ _ h => h) (Or.inl ⟨by rfl, ?_⟩) hHeld ?_ ?_
                          rotate_left
                          ·rintro w' ⟨s0, s1, s2, s3, s4, s5, s6, s7, s8, s9, s10, s11, s12, s13, s14, s15, s16, s17, s18⟩
                           go_simp
                           with_reducible rfl
                          rotate_left
                          ·simp only [Act.put, List.setIfInBounds_toArray, List.set_cons_zero, List.set_cons_succ, i64_w, i32_w]
                           rfl
                          refine pure_ (i := 6) (N := some 105) (v := ?_) (a' := ?_) #[true, true, true, true, true, true, true, false, true, false, true, true, false, false, false, false, false, false, false, false, false, false, false, false, false, false, false, false, false, false, false, false, false, false, false, false, false] rfl rfl (any_of HT_.out (by kernel_rfl)) (fun _ _ _ h => h) (Or.inl ⟨by rfl, ?_⟩) ?_ ?_
                          rotate_left
                          ·intro w'
                           go_simp
                           with_reducible rfl
                          rotate_left
                          ·simp only [Act.put, List.setIfInBounds_toArray, List.set_cons_zero, List.set_cons_succ, i64_w, i32_w]
                           rfl
                          refine take_ (i := 7) (N := some 106) (v := ?_) (a' := ?_) #[true, true, true, true, true, true, true, true, true, false, true, true, false, false, false, false, false, false, false, false, false, false, false, false, false, false, false, false, false, false, false, false, false, false, false, false, false] rfl rfl (take_ofW HT_.out HW_.out (by kernel_rfl)) (fun _ _ _ h => h) (Or.inl ⟨by rfl, ?_⟩) hHeld ?_ ?_
                          rotate_left
                          ·rintro w' ⟨s0, s1, s2, s3, s4, s5, s6, s7, s8, s9, s10, s11, s12, s13, s14, s15, s16, s17, s18⟩
                           go_simp
                           with_reducible rfl
                          rotate_left
                          ·simp only [Act.put, List.setIfInBounds_toArray, List.set_cons_zero, List.set_cons_succ, i64_w, i32_w]
                           rfl
                          refine take_ (i := 9) (N := some 108) (v := ?_) (a' := ?_) #[true, true, true, true, true, true, true, true, true, true, true, true, false, false, false, false, false, false, false, false, false, false, false, false, false, false, false, false, false, false, false, false, false, false, false, false, false] rfl rfl (take_ofW HT_.out HW_.out (by kernel_rfl)) (fun _ _ _ h => h) (Or.inl ⟨by rfl, ?_⟩) hHeld ?_ ?_
                          rotate_left
                          ·rintro w' ⟨s0, s1, s2, s3, s4, s5, s6, s7, s8, s9, s10, s11, s12, s13, s14, s15, s16, s17, s18⟩
                           go_simp
                           with_reducible rfl
                          rotate_left
                          ·simp only [Act.put, List.setIfInBounds_toArray, List.set_cons_zero, List.set_cons_succ, i64_w, i32_w]
                           rfl
                          refine pure_ (i := 12) (N := some 111) (v := ?_) (a' := ?_) #[true, true, true, true, true, true, true, true, true, true, true, true, true, false, false, false, false, false, false, false, false, false, false, false, false, false, false, false, false, false, false, false, false, false, false, false, false] rfl rfl (any_of HT_.out (by kernel_rfl)) (fun _ _ _ h => h) (Or.inl ⟨by rfl, ?_⟩) ?_ ?_
                          rotate_left
                          ·intro w'
                           go_simp
                           with_reducible rfl
                          rotate_left
                          ·simp only [Act.put, List.setIfInBounds_toArray, List.set_cons_zero, List.set_cons_succ, i64_w, i32_w]
                           rfl
                          refine take_ (i := 13) (N := some 112) (v := ?_) (a' := ?_) #[true, true, true, true, true, true, true, true, true, true, true, true, true, true, false, false, false, false, false, false, false, false, false, false, false, false, false, false, false, false, false, false, false, false, false, false, false] rfl rfl (take_ofW HT_.out HW_.out (by kernel_rfl)) (fun _ _ _ h => h) (Or.inl ⟨by rfl, ?_⟩) hHeld ?_ ?_
                          rotate_left
                          ·rintro w' ⟨s0, s1, s2, s3, s4, s5, s6, s7, s8, s9, s10, s11, s12, s13, s14, s15, s16, s17, s18⟩
                           go_simp
                           with_reducible rfl
                          rotate_left
                          ·simp only [Act.put, List.setIfInBounds_toArray, List.set_cons_zero, List.set_cons_succ, i64_w, i32_w]
                           rfl
                          refine pure_ (i := 14) (N := some 113) (v := ?_) (a' := ?_) #[true, true, true, true, true, true, true, true, true, true, true, true, true, true, true, false, false, false, false, false, false, false, false, false, false, false, false, false, false, false, false, false, false, false, false, false, false] rfl rfl (any_of HT_.out (by kernel_rfl)) (fun _ _ _ h => h) (Or.inl ⟨by rfl, ?_⟩) ?_ ?_
                          rotate_left
                          ·intro w'
                           go_simp
                           with_reducible rfl
                          rotate_left
                          ·simp only [Act.put, List.setIfInBounds_toArray, List.set_cons_zero, List.set_cons_succ, i64_w, i32_w]
                           rfl
                          refine pure_ (i := 15) (N := some 114) (v := ?_) (a' := ?_) #[true, true, true, true, true, true, true, true, true, true, true, true, true, true, true, true, false, false, false, false, false, false, false, false, false, false, false, false, false, false, false, false, false, false, false, false, false] rfl rfl (any_of HT_.out (by kernel_rfl)) (fun _ _ _ h => h) (Or.inl ⟨by rfl, ?_⟩) ?_ ?_
                          rotate_left
                          ·intro w'
                           go_simp
                           with_reducible rfl
                          rotate_left
                          ·simp only [Act.put, List.setIfInBounds_toArray, List.set_cons_zero, List.set_cons_succ, i64_w, i32_w]
                           rfl
                          refine pure_ (i := 16) (N := some 115) (v := ?_) (a' := ?_) #[true, true, true, true, true, true, true, true, true, true, true, true, true, true, true, true, true, false, false, false, false, false, false, false, false, false, false, false, false, false, false, false, false, false, false, false, false] rfl rfl (any_of HT_.out (by kernel_rfl)) (fun _ _ _ h => h) (Or.inl ⟨by rfl, ?_⟩) ?_ ?_
                          rotate_left
                          ·intro w'
                           go_simp
                           with_reducible rfl
                          rotate_left
                          ·simp only [Act.put, List.setIfInBounds_toArray, List.set_cons_zero, List.set_cons_succ, i64_w, i32_w]
                           rfl
                          refine pure_ (i := 17) (N := some 116) (v := ?_) (a' := ?_) #[true, true, true, true, true, true, true, true, true, true, true, true, true, true, true, true, true, true, false, false, false, false, false, false, false, false, false, false, false, false, false, false, false, false, false, false, false] rfl rfl (any_of HT_.out (by kernel_rfl)) (fun _ _ _ h => h) (Or.inl ⟨by rfl, ?_⟩) ?_ ?_
                          rotate_left
                          ·intro w'
                           go_simp
                           with_reducible rfl
                          rotate_left
                          ·simp only [Act.put, List.setIfInBounds_toArray, List.set_cons_zero, List.set_cons_succ, i64_w, i32_w]
                           rfl
                          refine pure_ (i := 18) (N := some 117) (v := ?_) (a' := ?_) #[true, true, true, true, true, true, true, true, true, true, true, true, true, true, true, true, true, true, true, false, false, false, false, false, false, false, false, false, false, false, false, false, false, false, false, false, false] rfl rfl (any_of HT_.out (by kernel_rfl)) (fun _ _ _ h => h) (Or.inl ⟨by rfl, ?_⟩) ?_ ?_
                          rotate_left
                          ·intro w'
                           go_simp
                           with_reducible rfl
                          rotate_left
                          ·simp only [Act.put, List.setIfInBounds_toArray, List.set_cons_zero, List.set_cons_succ, i64_w, i32_w]
                           rfl
                          refine take_ (i := 19) (N := some 118) (v := ?_) (a' := ?_) #[true, true, true, true, true, true, true, true, true, true, true, true, true, true, true, true, true, true, true, true, false, false, false, false, false, false, false, false, false, false, false, false, false, false, false, false, false] rfl rfl (take_ofW HT_.out HW_.out (by kernel_rfl)) (fun _ _ _ h => h) (Or.inl ⟨by rfl, ?_⟩) hHeld ?_ ?_
                          rotate_left
                          ·rintro w' ⟨s0, s1, s2, s3, s4, s5, s6, s7, s8, s9, s10, s11, s12, s13, s14, s15, s16, s17, s18⟩
                           go_simp
                           with_reducible rfl
                          rotate_left
                          ·simp only [Act.put, List.setIfInBounds_toArray, List.set_cons_zero, List.set_cons_succ, i64_w, i32_w]
                           rfl
                          refine pure_ (i := 20) (N := some 119) (v := ?_) (a' := ?_) #[true, true, true, true, true, true, true, true, true, true, true, true, true, true, true, true, true, true, true, true, true, false, false, false, false, false, false, false, false, false, false, false, false, false, false, false, false] rfl rfl (any_of HT_.out (by kernel_rfl)) (fun _ _ _ h => h) (Or.inl ⟨by rfl, ?_⟩) ?_ ?_
                          rotate_left
                          ·intro w'
                           go_simp
                           with_reducible rfl
                          rotate_left
                          ·simp only [Act.put, List.setIfInBounds_toArray, List.set_cons_zero, List.set_cons_succ, i64_w, i32_w]
                           rfl
                          refine pure_ (i := 21) (N := some 120) (v := ?_) (a' := ?_) #[true, true, true, true, true, true, true, true, true, true, true, true, true, true, true, true, true, true, true, true, true, true, false, false, false, false, false, false, false, false, false, false, false, false, false, false, false] rfl rfl (any_of HT_.out (by kernel_rfl)) (fun _ _ _ h => h) (Or.inl ⟨by rfl, ?_⟩) ?_ ?_
                          rotate_left
                          ·intro w'
                           go_simp
                           with_reducible rfl
                          rotate_left
                          ·simp only [Act.put, List.setIfInBounds_toArray, List.set_cons_zero, List.set_cons_succ, i64_w, i32_w]
                           rfl
                          refine pure_ (i := 22) (N := some 121) (v := ?_) (a' := ?_) #[true, true, true, true, true, true, true, true, true, true, true, true, true, true, true, true, true, true, true, true, true, true, true, false, false, false, false, false, false, false, false, false, false, false, false, false, false] rfl rfl (any_of HT_.out (by kernel_rfl)) (fun _ _ _ h => h) (Or.inl ⟨by rfl, ?_⟩) ?_ ?_
                          rotate_left
                          ·intro w'
                           go_simp
                           with_reducible rfl
                          rotate_left
                          ·simp only [Act.put, List.setIfInBounds_toArray, List.set_cons_zero, List.set_cons_succ, i64_w, i32_w]
                           rfl
                          refine pure_ (i := 23) (N := some 122) (v := ?_) (a' := ?_) #[true, true, true, true, true, true, true, true, true, true, true, true, true, true, true, true, true, true, true, true, true, true, true, true, false, false, false, false, false, false, false, false, false, false, false, false, false] rfl rfl (any_of HT_.out (by kernel_rfl)) (fun _ _ _ h => h) (Or.inl ⟨by rfl, ?_⟩) ?_ ?_
                          rotate_left
                          ·intro w'
                           go_simp
                           with_reducible rfl
                          rotate_left
                          ·simp only [Act.put, List.setIfInBounds_toArray, List.set_cons_zero, List.set_cons_succ, i64_w, i32_w]
                           rfl
                          refine pure_ (i := 24) (N := some 123) (v := ?_) (a' := ?_) #[true, true, true, true, true, true, true, true, true, true, true, true, true, true, true, true, true, true, true, true, true, true, true, true, true, false, false, false, false, false, false, false, false, false, false, false, false] rfl rfl (any_of HT_.out (by kernel_rfl)) (fun _ _ _ h => h) (Or.inl ⟨by rfl, ?_⟩) ?_ ?_
                          rotate_left
                          ·intro w'
                           go_simp
                           with_reducible rfl
                          rotate_left
                          ·simp only [Act.put, List.setIfInBounds_toArray, List.set_cons_zero, List.set_cons_succ, i64_w, i32_w]
                           rfl
                          refine pure_ (i := 26) (N := some 125) (v := ?_) (a' := ?_) #[true, true, true, true, true, true, true, true, true, true, true, true, true, true, true, true, true, true, true, true, true, true, true, true, true, false, true, false, false, false, false, false, false, false, false, false, false] rfl rfl (any_of HT_.out (by kernel_rfl)) (fun _ _ _ h => h) (Or.inl ⟨by rfl, ?_⟩) ?_ ?_
                          rotate_left
                          ·intro w'
                           go_simp
                           with_reducible rfl
                          rotate_left
                          ·simp only [Act.put, List.setIfInBounds_toArray, List.set_cons_zero, List.set_cons_succ, i64_w, i32_w]
                           rfl
                          refine pure_ (i := 30) (N := some 129) (v := ?_) (a' := ?_) #[true, true, true, true, true, true, true, true, true, true, true, true, true, true, true, true, true, true, true, true, true, true, true, true, true, false, true, false, false, false, true, false, false, false, false, false, false] rfl rfl (any_of HT_.out (by kernel_rfl)) (fun _ _ _ h => h) (Or.inl ⟨by rfl, ?_⟩) ?_ ?_
                          rotate_left
                          ·intro w'
                           go_simp
                           with_reducible rfl
                          rotate_left
                          ·simp only [Act.put, List.setIfInBounds_toArray, List.set_cons_zero, List.set_cons_succ, i64_w, i32_w]
                           rfl
                          refine pure_ (i := 32) (N := some 131) (v := ?_) (a' := ?_) #[true, true, true, true, true, true, true, true, true, true, true, true, true, true, true, true, true, true, true, true, true, true, true, true, true, false, true, false, false, false, true, false, true, false, false, false, false] rfl rfl (any_of HT_.out (by kernel_rfl)) (fun _ _ _ h => h) (Or.inl ⟨by rfl, ?_⟩) ?_ ?_
                          rotate_left
                          ·intro w'
                           go_simp
                           with_reducible rfl
                          rotate_left
                          ·simp only [Act.put, List.setIfInBounds_toArray, List.set_cons_zero, List.set_cons_succ, i64_w, i32_w]
                           rfl
                          refine take_ (i := 25) (N := some 124) (v := ?_) (a' := ?_) #[true, true, true, true, true, true, true, true, true, true, true, true, true, true, true, true, true, true, true, true, true, true, true, true, true, true, true, false, false, false, true, false, true, false, false, false, false] rfl rfl (take_ofW HT_.out HW_.out (by kernel_rfl)) (fun _ _ _ h => h) (Or.inl ⟨by rfl, ?_⟩) hHeld ?_ ?_
                          rotate_left
                          ·rintro w' ⟨s0, s1, s2, s3, s4, s5, s6, s7, s8, s9, s10, s11, s12, s13, s14, s15, s16, s17, s18⟩
                           go_simp
                           with_reducible rfl
                          rotate_left
                          ·simp only [Act.put, List.setIfInBounds_toArray, List.set_cons_zero, List.set_cons_succ, i64_w, i32_w]
                           rfl
                          refine pure_ (i := 27) (N := some 126) (v := ?_) (a' := ?_) #[true, true, true, true, true, true, true, true, true, true, true, true, true, true, true, true, true, true, true, true, true, true, true, true, true, true, true, true, false, false, true, false, true, false, false, false, false] rfl rfl (any_of HT_.out (by kernel_rfl)) (fun _ _ _ h => h) (Or.inl ⟨by rfl, ?_⟩) ?_ ?_
                          rotate_left
                          ·intro w'
                           go_simp
                           with_reducible rfl
                          rotate_left
                          ·simp only [Act.put, List.setIfInBounds_toArray, List.set_cons_zero, List.set_cons_succ, i64_w, i32_w]
                           rfl
                          refine pure_ (i := 28) (N := some 127) (v := ?_) (a' := ?_) #[true, true, true, true, true, true, true, true, true, true, true, true, true, true, true, true, true, true, true, true, true, true, true, true, true, true, true, true, true, false, true, false, true, false, false, false, false] rfl rfl (any_of HT_.out (by kernel_rfl)) (fun _ _ _ h => h) (Or.inl ⟨by rfl, ?_⟩) ?_ ?_
                          rotate_left
                          ·intro w'
                           go_simp
                           with_reducible rfl
                          rotate_left
                          ·simp only [Act.put, List.setIfInBounds_toArray, List.set_cons_zero, List.set_cons_succ, i64_w, i32_w]
                           rfl
                          refine take_ (i := 29) (N := some 128) (v := ?_) (a' := ?_) #[true, true, true, true, true, true, true, true, true, true, true, true, true, true, true, true, true, true, true, true, true, true, true, true, true, true, true, true, true, true, true, false, true, false, false, false, false] rfl rfl (take_ofW HT_.out HW_.out (by kernel_rfl)) (fun _ _ _ h => h) (Or.inl ⟨by rfl, ?_⟩) hHeld ?_ ?_
                          rotate_left
                          ·rintro w' ⟨s0, s1, s2, s3, s4, s5, s6, s7, s8, s9, s10, s11, s12, s13, s14, s15, s16, s17, s18⟩
                           go_simp
                           with_reducible rfl
                          rotate_left
                          ·simp only [Act.put, List.setIfInBounds_toArray, List.set_cons_zero, List.set_cons_succ, i64_w, i32_w]
                           rfl
                          refine take_ (i := 31) (N := some 130) (v := ?_) (a' := ?_) #[true, true, true, true, true, true, true, true, true, true, true, true, true, true, true, true, true, true, true, true, true, true, true, true, true, true, true, true, true, true, true, true, true, false, false, false, false] rfl rfl (take_ofW HT_.out HW_.out (by kernel_rfl)) (fun _ _ _ h => h) (Or.inl ⟨by rfl, ?_⟩) hHeld ?_ ?_
                          rotate_left
                          ·rintro w' ⟨s0, s1, s2, s3, s4, s5, s6, s7, s8, s9, s10, s11, s12, s13, s14, s15, s16, s17, s18⟩
                           go_simp
                           with_reducible rfl
                          rotate_left
                          ·simp only [Act.put, List.setIfInBounds_toArray, List.set_cons_zero, List.set_cons_succ, i64_w, i32_w]
                           rfl
                          refine pure_ (i := 33) (N := some 132) (v := ?_) (a' := ?_) #[true, true, true, true, true, true, true, true, true, true, true, true, true, true, true, true, true, true, true, true, true, true, true, true, true, true, true, true, true, true, true, true, true, true, false, false, false] rfl rfl (any_of HT_.out (by kernel_rfl)) (fun _ _ _ h => h) (Or.inl ⟨by rfl, ?_⟩) ?_ ?_
                          rotate_left
                          ·intro w'
                           go_simp
                           with_reducible rfl
                          rotate_left
                          ·simp only [Act.put, List.setIfInBounds_toArray, List.set_cons_zero, List.set_cons_succ, i64_w, i32_w]
                           rfl
                          refine take_ (i := 34) (N := some 133) (v := ?_) (a' := ?_) #[true, true, true, true, true, true, true, true, true, true, true, true, true, true, true, true, true, true, true, true, true, true, true, true, true, true, true, true, true, true, true, true, true, true, true, false, false] rfl rfl (take_ofW HT_.out HW_.out (by kernel_rfl)) (fun _ _ _ h => h) (Or.inl ⟨by rfl, ?_⟩) hHeld ?_ ?_
                          rotate_left
                          ·rintro w' ⟨s0, s1, s2, s3, s4, s5, s6, s7, s8, s9, s10, s11, s12, s13, s14, s15, s16, s17, s18⟩
                           go_simp
                           with_reducible rfl
                          rotate_left
                          ·simp only [Act.put, List.setIfInBounds_toArray, List.set_cons_zero, List.set_cons_succ, i64_w, i32_w]
                           rfl
                          refine pure_ (i := 35) (N := some 134) (v := ?_) (a' := ?_) #[true, true, true, true, true, true, true, true, true, true, true, true, true, true, true, true, true, true, true, true, true, true, true, true, true, true, true, true, true, true, true, true, true, true, true, true, false] rfl rfl (any_of HT_.out (by kernel_rfl)) (fun _ _ _ h => h) (Or.inl ⟨by rfl, ?_⟩) ?_ ?_
                          rotate_left
                          ·intro w'
                           go_simp
                           with_reducible rfl
                          rotate_left
                          ·simp only [Act.put, List.setIfInBounds_toArray, List.set_cons_zero, List.set_cons_succ, i64_w, i32_w]
                           rfl
                          refine pure_ (i := 36) (N := some 135) (v := ?_) (a' := ?_) #[true, true, true, true, true, true, true, true, true, true, true, true, true, true, true, true, true, true, true, true, true, true, true, true, true, true, true, true, true, true, true, true, true, true, true, true, true] rfl rfl (any_of HT_.out (by kernel_rfl)) (fun _ _ _ h => h) (Or.inl ⟨by rfl, ?_⟩) ?_ ?_
                          rotate_left
                          ·intro w'
                           go_simp
                           with_reducible rfl
                          rotate_left
                          ·simp only [Act.put, List.setIfInBounds_toArray, List.set_cons_zero, List.set_cons_succ, i64_w, i32_w]
                           rfl
                          refine done_ (done_of HT_.out (by kernel_rfl)) ?_
                          try go_wp2
                          go_roundg k3
                          case measure => have := HK1.out; have := HJ24.out; have := HK3.out; omega
                          case rel => exact ⟨(wrap64 (x18_3 + 1)), (by first | rfl | (simp; done) | (simp [*]; done)), H', ⟨by have := HK1.out; have := HJ24.out; have := HK3.out; omega⟩, ⟨by (with_reducible repeat (first | apply Kd.R_alloc | apply Kd.R_drewN | apply Kd.R_drew)); exact HO_584003.out⟩, ⟨by (with_reducible repeat (first | apply Kd.R_alloc | apply Kd.R_drewN | apply Kd.R_drew)); exact HO_584006.out⟩, ⟨by (with_reducible repeat (first | apply Kd.N_alloc | apply Kd.N_drewN | apply Kd.N_drew)); exact HO_584007.out⟩, ⟨by (with_reducible repeat (first | apply Kd.R_alloc | apply Kd.R_drewN | apply Kd.R_drew)); exact HO_601003.out⟩, ⟨by (with_reducible repeat (first | apply Kd.R_alloc | apply Kd.R_drewN | apply Kd.R_drew)); exact HO_601006.out⟩, ⟨by (with_reducible repeat (first | apply Kd.N_alloc | apply Kd.N_drewN | apply Kd.N_drew)); exact HO_601007.out⟩, ⟨by (with_reducible repeat (first | refine blk_drewN ?_ _ | refine blk_drew ?_ | refine blk_alloc ?_ _)); exact BK583.out⟩, ⟨by (with_reducible repeat (first | refine blk_drewN ?_ _ | refine blk_drew ?_ | refine blk_alloc ?_ _)); exact BK600.out⟩, ⟨by repeat (first | (with_reducible first | exact HB.out | apply below_alloc | apply pw_below_drewN | apply below_drew1 | refine below_set ?_ GE583.out | refine below_set ?_ GE600.out) | exact HB.out)⟩⟩
                         ·rw [if_neg c69] at H
                          have c69b0 : (((rd_T50 t578 x18_3).f3).toList == (rdOf ByteArray.empty t575 x18_3).toList) = false := beq_eq_false_iff_ne.mpr c69
                          have c69b1 : (((rd_T50 t578 x18_3).f3).toList != (rdOf ByteArray.empty t575 x18_3).toList) = true := bne_iff_ne.mpr c69
                          exact absurd (Option.some.inj H) (by decide)
                        ·rw [if_neg c68] at H
                         exact absurd H (by simp)
                      ·rw [if_neg c63] at H
                       have c63b0 : (Op.bytesLess ((rdOf ByteArray.empty t575 (ji60)).toList) ((rdOf ByteArray.empty t575 x18_3).toList)) = false := by simpa using c63
                       clear c63
                       exact absurd (Option.some.inj H) (by decide)
                     ·rw [if_neg c62] at H
                      exact absurd H (by simp)
                    ·rw [if_neg c61] at H
                     exact absurd H (by simp)
                   ·rw [if_neg c59] at H
                    exact absurd H (by simp)
                  ·rw [if_neg c58] at H
                   have c58b0 : decide (0 < x18_3) = false := decide_eq_false c58
                   clear c58
                   by_cases c79 : x18_3 ≥ (t578.length : Int)
                   ·rw [if_pos c79] at H
                    have c79b0 : decide ((t578.length : Int) ≤ x18_3) = true := decide_eq_true c79
                    clear c79
                    exact absurd (Option.some.inj H) (by decide)
                   ·rw [if_neg c79] at H
                    have c79b0 : decide ((t578.length : Int) ≤ x18_3) = false := decide_eq_false c79
                    clear c79
                    by_cases c83 : 0 ≤ x18_3
                    ·rw [if_pos c83] at H
                     have c83b0 : decide (0 ≤ x18_3) = true := decide_eq_true c83
                     clear c83
                     by_cases c84 : x18_3 < (t578.length : Int)
                     ·rw [if_pos c84] at H
                      have c84b0 : decide (x18_3 < (t578.length : Int)) = true := decide_eq_true c84
                      clear c84
                      by_cases c85 : ((rd_T50 t578 x18_3).f3).toList = (rdOf ByteArray.empty t575 x18_3).toList
                      ·rw [if_pos c85] at H
                       have c85b0 : (((rd_T50 t578 x18_3).f3).toList == (rdOf ByteArray.empty t575 x18_3).toList) = true := beq_iff_eq.mpr c85
                       have c85b1 : (((rd_T50 t578 x18_3).f3).toList != (rdOf ByteArray.empty t575 x18_3).toList) = false := bne_eq_false_iff_eq.mpr c85
                       clear c85
                       have H' := Aside0.mk H
                       clear H
                       have hnb86 := NB583_600.out
                       have hnc86 := NB600_583.out
                       have hcz87_0 : wr.cell? ⟨gb583, 0, none⟩ = some (.int .i64 t567) := (blk_cell BK583.out 0).trans rfl
                       have hcz87_1 : wr.cell? ⟨gb583, 1, none⟩ = some (.bool t568) := (blk_cell BK583.out 1).trans rfl
                       have hcz87_2 : wr.cell? ⟨gb583, 2, none⟩ = some (.bool t569) := (blk_cell BK583.out 2).trans rfl
                       have hcz87_3 : wr.cell? ⟨gb583, 3, none⟩ = some (.slice Ao40 t570.length co40) := (blk_cell BK583.out 3).trans rfl
                       have hcz87_4 : wr.cell? ⟨gb583, 4, none⟩ = some (.int .i64 t573) := (blk_cell BK583.out 4).trans rfl
                       have hcz87_5 : wr.cell? ⟨gb583, 5, none⟩ = some (.string t574) := (blk_cell BK583.out 5).trans rfl
                       have hcz87_6 : wr.cell? ⟨gb583, 6, none⟩ = some (.slice Ao41 t575.length co41) := (blk_cell BK583.out 6).trans rfl
                       have hcz87_7 : wr.cell? ⟨gb583, 7, none⟩ = some (.slice Ao42 t578.length co42) := (blk_cell BK583.out 7).trans rfl
                       have hfz87_0 := blk_frozen BK583.out 0
                       have hfz87_1 := blk_frozen BK583.out 1
                       have hfz87_2 := blk_frozen BK583.out 2
                       have hfz87_3 := blk_frozen BK583.out 3
                       have hfz87_4 := blk_frozen BK583.out 4
                       have hfz87_5 := blk_frozen BK583.out 5
                       have hfz87_6 := blk_frozen BK583.out 6
                       have hfz87_7 := blk_frozen BK583.out 7
                       try go_wp2
                       have n0_ := Aside0.mk (Kd.R_drew HO_584003.out)
                       have n1_ := Aside0.mk (Kd.R_drew HO_584006.out)
                       have n2_ := Aside0.mk (Kd.N_drew HO_584007.out)
                       have n3_ := Aside0.mk (Kd.R_drew HO_601003.out)
                       have n4_ := Aside0.mk (Kd.R_drew HO_601006.out)
                       have n5_ := Aside0.mk (Kd.N_drew HO_601007.out)
                       have n6_ := Aside0.mk (blk_drew BK583.out)
                       have n7_ := Aside0.mk (blk_drew BK600.out)
                       have n8_ := Aside0.mk (below_drew1 HB.out)
                       clear HO_584003
                       clear HO_584006
                       clear HO_584007
                       clear HO_601003
                       clear HO_601006
                       clear HO_601007
                       clear BK583
                       clear BK600
                       clear HB
                       have HO_584003 := n0_
                       have HO_584006 := n1_
                       have HO_584007 := n2_
                       have HO_601003 := n3_
                       have HO_601006 := n4_
                       have HO_601007 := n5_
                       have BK583 := n6_
                       have BK600 := n7_
                       have HB := n8_
                       clear n0_ n1_ n2_ n3_ n4_ n5_ n6_ n7_ n8_
                       have p607 : 0 ≤ (x18_3 : Int) := of_decide_eq_true (by first | (with_reducible assumption) | assumption)
                       have q607 : x18_3 < (t578.length : Int) := of_decide_eq_true (by first | (with_reducible assumption) | assumption)
                       obtain ⟨ad607, A607_3, c607_3, A607_6, c607_6, A607_7, c607_7, e607, hx607_0, hx607_1, hx607_2, hx607_3, hx607_4, hx607_5, hx607_6, hx607_7, hl607_3, hi607_3, hl607_6, hi607_6, hl607_7, hi607_7⟩ := at_T50 (Kd.N_reads' HO_584007.out).2.2 x18_3 p607 q607
                       cases e607
                       obtain ⟨ce607, hce607, hMe607, hcc607⟩ := Kd.N_get HO_584007.out z50 x18_3 p607 (by first | exact q607 | exact of_decide_eq_true (by first | (with_reducible assumption) | assumption) | (have e_ := (Kd.N_reads' HO_584007.out).1; omega))
                       obtain ⟨ua607_3, uc607_3, ua607_6, uc607_6, ua607_7, uc607_7, rfl, ul607_3, ge607_3, ul607_6, ge607_6, ul607_7, ge607_7⟩ := k50_openF hMe607
                       have hv607_3 := hcc607 3 _ rfl
                       rw [add_field _ _ 3 (by omega)] at hv607_3
                       replace hv607_3 := Option.some.inj (hv607_3.symm.trans hx607_3)
                       injection hv607_3 with hva_ hvn_ hvc_
                       rw [hva_] at ge607_3
                       rw [hvc_] at ul607_3
                       have HL607_3 := Aside0.mk (show Kd.V (Kd.int .u32) 78 _ w.heap.size _ _ ((rd_T50 t578 x18_3).f2.f1) from Kd.V_mk ul607_3 ge607_3)
                       clear hva_ hvn_ hvc_ ge607_3 ul607_3
                       have hv607_6 := hcc607 6 _ rfl
                       rw [add_field _ _ 6 (by omega)] at hv607_6
                       replace hv607_6 := Option.some.inj (hv607_6.symm.trans hx607_6)
                       injection hv607_6 with hva_ hvn_ hvc_
                       rw [hva_] at ge607_6
                       rw [hvc_] at ul607_6
                       have HL607_6 := Aside0.mk (show Kd.V Kd.string 9 _ w.heap.size _ _ ((rd_T50 t578 x18_3).f4) from Kd.V_mk ul607_6 ge607_6)
                       clear hva_ hvn_ hvc_ ge607_6 ul607_6
                       have hv607_7 := hcc607 7 _ rfl
                       rw [add_field _ _ 7 (by omega)] at hv607_7
                       replace hv607_7 := Option.some.inj (hv607_7.symm.trans hx607_7)
                       injection hv607_7 with hva_ hvn_ hvc_
                       rw [hva_] at ge607_7
                       rw [hvc_] at ul607_7
                       have HL607_7 := Aside0.mk (show Kd.V k50 50 _ w.heap.size _ _ ((rd_T50 t578 x18_3).f5) from Kd.V_mk ul607_7 ge607_7)
                       clear hva_ hvn_ hvc_ ge607_7 ul607_7
                       clear hcc607 hce607
                       have HR607_3 := Aside0.mk hi607_3
                       have HC607_3 := Aside0.mk hl607_3
                       clear hi607_3 hl607_3
                       have HR607_6 := Aside0.mk hi607_6
                       have HC607_6 := Aside0.mk hl607_6
                       clear hi607_6 hl607_6
                       have HR607_7 := Aside0.mk hi607_7
                       have HC607_7 := Aside0.mk hl607_7
                       clear hi607_7 hl607_7
                       replace p607 := eq_true p607
                       replace q607 := eq_true q607
                       have p608 : 0 ≤ (x18_3 : Int) := of_decide_eq_true (by first | (with_reducible assumption) | assumption)
                       have q608 : x18_3 < (t575.length : Int) := of_decide_eq_true (by first | (with_reducible assumption) | assumption)
                       obtain ⟨ad608, e608, hx608_0⟩ := Kd.at_string (Kd.R_reads' HO_584006.out).2.2 x18_3 p608 q608
                       cases e608
                       replace p608 := eq_true p608
                       replace q608 := eq_true q608
                       refine start_ (n := 37) (S := fun w' => w'.cell? ⟨gb583, 0, none⟩ = some (.int .i64 t567) ∧ w'.cell? ⟨gb583, 1, none⟩ = some (.bool t568) ∧ w'.cell? ⟨gb583, 2, none⟩ = some (.bool t569) ∧ w'.cell? ⟨gb583, 3, none⟩ = some (.slice Ao40 t570.length co40) ∧ w'.cell? ⟨gb583, 4, none⟩ = some (.int .i64 t573) ∧ w'.cell? ⟨gb583, 5, none⟩ = some (.string t574) ∧ w'.cell? ⟨gb583, 6, none⟩ = some (.slice (some ad608) t575.length co41) ∧ w'.cell? ⟨gb583, 7, none⟩ = some (.slice (some ad607) t578.length co42) ∧ w'.cell? (ad607.add ((x18_3).toNat * 8)) = some (.int .i64 ((rd_T50 t578 x18_3).f0)) ∧ w'.cell? ⟨(ad607.add ((x18_3).toNat * 8)).block, (ad607.add ((x18_3).toNat * 8)).off + 1, none⟩ = some (.bool ((rd_T50 t578 x18_3).f1)) ∧ w'.cell? ⟨(ad607.add ((x18_3).toNat * 8)).block, (ad607.add ((x18_3).toNat * 8)).off + 2, none⟩ = some (.bool ((rd_T50 t578 x18_3).f2.f0)) ∧ w'.cell? ⟨(ad607.add ((x18_3).toNat * 8)).block, (ad607.add ((x18_3).toNat * 8)).off + 3, none⟩ = some (.slice A607_3 ((rd_T50 t578 x18_3).f2.f1).length c607_3) ∧ w'.cell? ⟨(ad607.add ((x18_3).toNat * 8)).block, (ad607.add ((x18_3).toNat * 8)).off + 4, none⟩ = some (.int .i64 ((rd_T50 t578 x18_3).f2.f2)) ∧ w'.cell? ⟨(ad607.add ((x18_3).toNat * 8)).block, (ad607.add ((x18_3).toNat * 8)).off + 5, none⟩ = some (.string ((rd_T50 t578 x18_3).f3)) ∧ w'.cell? ⟨(ad607.add ((x18_3).toNat * 8)).block, (ad607.add ((x18_3).toNat * 8)).off + 6, none⟩ = some (.slice A607_6 ((rd_T50 t578 x18_3).f4).length c607_6) ∧ w'.cell? ⟨(ad607.add ((x18_3).toNat * 8)).block, (ad607.add ((x18_3).toNat * 8)).off + 7, none⟩ = some (.slice A607_7 ((rd_T50 t578 x18_3).f5).length c607_7) ∧ w'.cell? (ad608.add (x18_3).toNat) = some (.string (rdOf ByteArray.empty t575 x18_3))) (ds := []) #[false, false, false, false, false, false, false, false, false, false, false, false, false, false, false, false, false, false, false, false, false, false, false, false, false, false, false, false, false, false, false, false, false, false, false, false, false] (by kernel_rfl) rfl rfl ⟨(blk_cell BK583.out 0).trans rfl, (blk_cell BK583.out 1).trans rfl, (blk_cell BK583.out 2).trans rfl, (blk_cell BK583.out 3).trans rfl, (blk_cell BK583.out 4).trans rfl, (blk_cell BK583.out 5).trans rfl, (blk_cell BK583.out 6).trans rfl, (blk_cell BK583.out 7).trans rfl, hx607_0, hx607_1, hx607_2, hx607_3, hx607_4, hx607_5, hx607_6, hx607_7, hx608_0⟩ (fun hHeld => ?_); refine with_tabW erratumlaw06_OrderObjects.tab20 erratumlaw06_OrderObjects.bits20 (fun HT_ HW_ => ?_)
                       generalize wr.drew = w88 at HO_584003 HO_584006 HO_584007 HO_601003 HO_601006 HO_601007 BK583 BK600 HB HL607_3 HL607_6 HL607_7 HR607_3 HR607_6 HR607_7 hx607_0 hx607_1 hx607_2 hx607_3 hx607_4 hx607_5 hx607_6 hx607_7 hx608_0 hHeld ⊢
                       refine pure_ (i := 0) (N := some 99) (v := ?_) (a' := ?_) #[true, false, false, false, false, false, false, false, false, false, false, false, false, false, false, false, false, false, false, false, false, false, false, false, false, false, false, false, false, false, false, false, false, false, false, false, false] rfl rfl (any_of HT_.out (by kernel_rfl)) (fun _ _ _ h => h) (Or.inl ⟨by rfl, ?_⟩) ?_ ?_
                       rotate_left
                       ·intro w'
                        go_simp
                        with_reducible rfl
                       rotate_left
                       ·simp only [Act.put, List.setIfInBounds_toArray, List.set_cons_zero, List.set_cons_succ, i64_w, i32_w]
                        rfl
                       refine pure_ (i := 1) (N := some 100) (v := ?_) (a' := ?_) #[true, true, false, false, false, false, false, false, false, false, false, false, false, false, false, false, false, false, false, false, false, false, false, false, false, false, false, false, false, false, false, false, false, false, false, false, false] rfl rfl (any_of HT_.out (by kernel_rfl)) (fun _ _ _ h => h) (Or.inl ⟨by rfl, ?_⟩) ?_ ?_
                       rotate_left
                       ·intro w'
                        go_simp
                        with_reducible rfl
                       rotate_left
                       ·simp only [Act.put, List.setIfInBounds_toArray, List.set_cons_zero, List.set_cons_succ, i64_w, i32_w]
                        rfl
                       refine pure_ (i := 2) (N := some 101) (v := ?_) (a' := ?_) #[true, true, true, false, false, false, false, false, false, false, false, false, false, false, false, false, false, false, false, false, false, false, false, false, false, false, false, false, false, false, false, false, false, false, false, false, false] rfl rfl (any_of HT_.out (by kernel_rfl)) (fun _ _ _ h => h) (Or.inl ⟨by rfl, ?_⟩) ?_ ?_
                       rotate_left
                       ·intro w'
                        go_simp
                        with_reducible rfl
                       rotate_left
                       ·simp only [Act.put, List.setIfInBounds_toArray, List.set_cons_zero, List.set_cons_succ, i64_w, i32_w]
                        rfl
                       refine pure_ (i := 3) (N := some 102) (v := undef) (a' := ?_) #[true, true, true, true, false, false, false, false, false, false, false, false, false, false, false, false, false, false, false, false, false, false, false, false, false, false, false, false, false, false, false, false, false, false, false, false, false] rfl rfl (any_of HT_.out (by kernel_rfl)) (fun _ _ _ h => h) (Or.inr ⟨by rfl, rfl⟩) ?_ ?_
                       rotate_left
                       ·simp only [Act.put, List.setIfInBounds_toArray, List.set_cons_zero, List.set_cons_succ, i64_w, i32_w]
                        rfl
                       refine pure_ (i := 4) (N := some 103) (v := undef) (a' := ?_) #[true, true, true, true, true, false, false, false, false, false, false, false, false, false, false, false, false, false, false, false, false, false, false, false, false, false, false, false, false, false, false, false, false, false, false, false, false] rfl rfl (any_of HT_.out (by kernel_rfl)) (fun _ _ _ h => h) (Or.inr ⟨by rfl, rfl⟩) ?_ ?_
                       rotate_left
                       ·simp only [Act.put, List.setIfInBounds_toArray, List.set_cons_zero, List.set_cons_succ, i64_w, i32_w]
                        rfl
                       refine pure_ (i := 5) (N := some 104) (v := undef) (a' := ?_) #[true, true, true, true, true, true, false, false, false, false, false, false, false, false, false, false, false, false, false, false, false, false, false, false, false, false, false, false, false, false, false, false, false, false, false, false, false] rfl rfl (any_of HT_.out (by kernel_rfl)) (fun _ _ _ h => h) (Or.inr ⟨by rfl, rfl⟩) ?_ ?_
                       rotate_left
                       ·simp only [Act.put, List.setIfInBounds_toArray, List.set_cons_zero, List.set_cons_succ, i64_w, i32_w]
                        rfl
                       refine pure_ (i := 6) (N := some 105) (v := undef) (a' := ?_) #[true, true, true, true, true, true, true, false, false, false, false, false, false, false, false, false, false, false, false, false, false, false, false, false, false, false, false, false, false, false, false, false, false, false, false, false, false] rfl rfl (any_of HT_.out (by kernel_rfl)) (fun _ _ _ h => h) (Or.inr ⟨by rfl, rfl⟩) ?_ ?_
                       rotate_left
                       ·simp only [Act.put, List.setIfInBounds_toArray, List.set_cons_zero, List.set_cons_succ, i64_w, i32_w]
                        rfl
                       refine pure_ (i := 7) (N := some 106) (v := undef) (a' := ?_) #[true, true, true, true, true, true, true, true, false, false, false, false, false, false, false, false, false, false, false, false, false, false, false, false, false, false, false, false, false, false, false, false, false, false, false, false, false] rfl rfl (any_of HT_.out (by kernel_rfl)) (fun _ _ _ h => h) (Or.inr ⟨by rfl, rfl⟩) ?_ ?_
                       rotate_left
                       ·simp only [Act.put, List.setIfInBounds_toArray, List.set_cons_zero, List.set_cons_succ, i64_w, i32_w]
                        rfl
                       refine pure_ (i := 8) (N := some 107) (v := undef) (a' := ?_) #[true, true, true, true, true, true, true, true, true, false, false, false, false, false, false, false, false, false, false, false, false, false, false, false, false, false, false, false, false, false, false, false, false, false, false, false, false] rfl rfl (any_of HT_.out (by kernel_rfl)) (fun _ _ _ h => h) (Or.inr ⟨by rfl, rfl⟩) ?_ ?_
                       rotate_left
                       ·simp only [Act.put, List.setIfInBounds_toArray, List.set_cons_zero, List.set_cons_succ, i64_w, i32_w]
                        rfl
                       refine pure_ (i := 9) (N := some 108) (v := undef) (a' := ?_) #[true, true, true, true, true, true, true, true, true, true, false, false, false, false, false, false, false, false, false, false, false, false, false, false, false, false, false, false, false, false, false, false, false, false, false, false, false] rfl rfl (any_of HT_.out (by kernel_rfl)) (fun _ _ _ h => h) (Or.inr ⟨by rfl, rfl⟩) ?_ ?_
                       rotate_left
                       ·simp only [Act.put, List.setIfInBounds_toArray, List.set_cons_zero, List.set_cons_succ, i64_w, i32_w]
                        rfl
                       refine pure_ (i := 10) (N := some 109) (v := undef) (a' := ?_) #[true, true, true, true, true, true, true, true, true, true, true, false, false, false, false, false, false, false, false, false, false, false, false, false, false, false, false, false, false, false, false, false, false, false, false, false, false] rfl rfl (any_of HT_.out (by kernel_rfl)) (fun _ _ _ h => h) (Or.inr ⟨by rfl, rfl⟩) ?_ ?_
                       rotate_left
                       ·simp only [Act.put, List.setIfInBounds_toArray, List.set_cons_zero, List.set_cons_succ, i64_w, i32_w]
                        rfl
                       refine pure_ (i := 11) (N := some 110) (v := undef) (a' := ?_) #[true, true, true, true, true, true, true, true, true, true, true, true, false, false, false, false, false, false, false, false, false, false, false, false, false, false, false, false, false, false, false, false, false, false, false, false, false] rfl rfl (any_of HT_.out (by kernel_rfl)) (fun _ _ _ h => h) (Or.inr ⟨by rfl, rfl⟩) ?_ ?_
                       rotate_left
                       ·simp only [Act.put, List.setIfInBounds_toArray, List.set_cons_zero, List.set_cons_succ, i64_w, i32_w]
                        rfl
                       refine pure_ (i := 12) (N := some 111) (v := undef) (a' := ?_) #[true, true, true, true, true, true, true, true, true, true, true, true, true, false, false, false, false, false, false, false, false, false, false, false, false, false, false, false, false, false, false, false, false, false, false, false, false] rfl rfl (any_of HT_.out (by kernel_rfl)) (fun _ _ _ h => h) (Or.inr ⟨by rfl, rfl⟩) ?_ ?_
                       rotate_left
                       ·simp only [Act.put, List.setIfInBounds_toArray, List.set_cons_zero, List.set_cons_succ, i64_w, i32_w]
                        rfl
                       refine pure_ (i := 13) (N := some 112) (v := undef) (a' := ?_) #[true, true, true, true, true, true, true, true, true, true, true, true, true, true, false, false, false, false, false, false, false, false, false, false, false, false, false, false, false, false, false, false, false, false, false, false, false] rfl rfl (any_of HT_.out (by kernel_rfl)) (fun _ _ _ h => h) (Or.inr ⟨by rfl, rfl⟩) ?_ ?_
                       rotate_left
                       ·simp only [Act.put, List.setIfInBounds_toArray, List.set_cons_zero, List.set_cons_succ, i64_w, i32_w]
                        rfl
                       refine pure_ (i := 14) (N := some 113) (v := undef) (a' := ?_) #[true, true, true, true, true, true, true, true, true, true, true, true, true, true, true, false, false, false, false, false, false, false, false, false, false, false, false, false, false, false, false, false, false, false, false, false, false] rfl rfl (any_of HT_.out (by kernel_rfl)) (fun _ _ _ h => h) (Or.inr ⟨by rfl, rfl⟩) ?_ ?_
                       rotate_left
                       ·simp only [Act.put, List.setIfInBounds_toArray, List.set_cons_zero, List.set_cons_succ, i64_w, i32_w]
                        rfl
                       refine pure_ (i := 15) (N := some 114) (v := ?_) (a' := ?_) #[true, true, true, true, true, true, true, true, true, true, true, true, true, true, true, true, false, false, false, false, false, false, false, false, false, false, false, false, false, false, false, false, false, false, false, false, false] rfl rfl (any_of HT_.out (by kernel_rfl)) (fun _ _ _ h => h) (Or.inl ⟨by rfl, ?_⟩) ?_ ?_
                       rotate_left
                       ·intro w'
                        go_simp
                        with_reducible rfl
                       rotate_left
                       ·simp only [Act.put, List.setIfInBounds_toArray, List.set_cons_zero, List.set_cons_succ, i64_w, i32_w]
                        rfl
                       refine pure_ (i := 16) (N := some 115) (v := ?_) (a' := ?_) #[true, true, true, true, true, true, true, true, true, true, true, true, true, true, true, true, true, false, false, false, false, false, false, false, false, false, false, false, false, false, false, false, false, false, false, false, false] rfl rfl (any_of HT_.out (by kernel_rfl)) (fun _ _ _ h => h) (Or.inl ⟨by rfl, ?_⟩) ?_ ?_
                       rotate_left
                       ·intro w'
                        go_simp
                        with_reducible rfl
                       rotate_left
                       ·simp only [Act.put, List.setIfInBounds_toArray, List.set_cons_zero, List.set_cons_succ, i64_w, i32_w]
                        rfl
                       refine pure_ (i := 17) (N := some 116) (v := ?_) (a' := ?_) #[true, true, true, true, true, true, true, true, true, true, true, true, true, true, true, true, true, true, false, false, false, false, false, false, false, false, false, false, false, false, false, false, false, false, false, false, false] rfl rfl (any_of HT_.out (by kernel_rfl)) (fun _ _ _ h => h) (Or.inl ⟨by rfl, ?_⟩) ?_ ?_
                       rotate_left
                       ·intro w'
                        go_simp
                        with_reducible rfl
                       rotate_left
                       ·simp only [Act.put, List.setIfInBounds_toArray, List.set_cons_zero, List.set_cons_succ, i64_w, i32_w]
                        rfl
                       refine pure_ (i := 18) (N := some 117) (v := ?_) (a' := ?_) #[true, true, true, true, true, true, true, true, true, true, true, true, true, true, true, true, true, true, true, false, false, false, false, false, false, false, false, false, false, false, false, false, false, false, false, false, false] rfl rfl (any_of HT_.out (by kernel_rfl)) (fun _ _ _ h => h) (Or.inl ⟨by rfl, ?_⟩) ?_ ?_
                       rotate_left
                       ·intro w'
                        go_simp
                        with_reducible rfl
                       rotate_left
                       ·simp only [Act.put, List.setIfInBounds_toArray, List.set_cons_zero, List.set_cons_succ, i64_w, i32_w]
                        rfl
                       refine take_ (i := 19) (N := some 118) (v := ?_) (a' := ?_) #[true, true, true, true, true, true, true, true, true, true, true, true, true, true, true, true, true, true, true, true, false, false, false, false, false, false, false, false, false, false, false, false, false, false, false, false, false] rfl rfl (take_ofW HT_.out HW_.out (by kernel_rfl)) (fun _ _ _ h => h) (Or.inl ⟨by rfl, ?_⟩) hHeld ?_ ?_
                       rotate_left
                       ·rintro w' ⟨s0, s1, s2, s3, s4, s5, s6, s7, s8, s9, s10, s11, s12, s13, s14, s15, s16⟩
                        go_simp
                        with_reducible rfl
                       rotate_left
                       ·simp only [Act.put, List.setIfInBounds_toArray, List.set_cons_zero, List.set_cons_succ, i64_w, i32_w]
                        rfl
                       refine pure_ (i := 20) (N := some 119) (v := ?_) (a' := ?_) #[true, true, true, true, true, true, true, true, true, true, true, true, true, true, true, true, true, true, true, true, true, false, false, false, false, false, false, false, false, false, false, false, false, false, false, false, false] rfl rfl (any_of HT_.out (by kernel_rfl)) (fun _ _ _ h => h) (Or.inl ⟨by rfl, ?_⟩) ?_ ?_
                       rotate_left
                       ·intro w'
                        go_simp
                        with_reducible rfl
                       rotate_left
                       ·simp only [Act.put, List.setIfInBounds_toArray, List.set_cons_zero, List.set_cons_succ, i64_w, i32_w]
                        rfl
                       refine pure_ (i := 21) (N := some 120) (v := ?_) (a' := ?_) #[true, true, true, true, true, true, true, true, true, true, true, true, true, true, true, true, true, true, true, true, true, true, false, false, false, false, false, false, false, false, false, false, false, false, false, false, false] rfl rfl (any_of HT_.out (by kernel_rfl)) (fun _ _ _ h => h) (Or.inl ⟨by rfl, ?_⟩) ?_ ?_
                       rotate_left
                       ·intro w'
                        go_simp
                        with_reducible rfl
                       rotate_left
                       ·simp only [Act.put, List.setIfInBounds_toArray, List.set_cons_zero, List.set_cons_succ, i64_w, i32_w]
                        rfl
                       refine pure_ (i := 22) (N := some 121) (v := ?_) (a' := ?_) #[true, true, true, true, true, true, true, true, true, true, true, true, true, true, true, true, true, true, true, true, true, true, true, false, false, false, false, false, false, false, false, false, false, false, false, false, false] rfl rfl (any_of HT_.out (by kernel_rfl)) (fun _ _ _ h => h) (Or.inl ⟨by rfl, ?_⟩) ?_ ?_
                       rotate_left
                       ·intro w'
                        go_simp
                        with_reducible rfl
                       rotate_left
                       ·simp only [Act.put, List.setIfInBounds_toArray, List.set_cons_zero, List.set_cons_succ, i64_w, i32_w]
                        rfl
                       refine pure_ (i := 23) (N := some 122) (v := ?_) (a' := ?_) #[true, true, true, true, true, true, true, true, true, true, true, true, true, true, true, true, true, true, true, true, true, true, true, true, false, false, false, false, false, false, false, false, false, false, false, false, false] rfl rfl (any_of HT_.out (by kernel_rfl)) (fun _ _ _ h => h) (Or.inl ⟨by rfl, ?_⟩) ?_ ?_
                       rotate_left
                       ·intro w'
                        go_simp
                        with_reducible rfl
                       rotate_left
                       ·simp only [Act.put, List.setIfInBounds_toArray, List.set_cons_zero, List.set_cons_succ, i64_w, i32_w]
                        rfl
                       refine pure_ (i := 24) (N := some 123) (v := ?_) (a' := ?_) #[true, true, true, true, true, true, true, true, true, true, true, true, true, true, true, true, true, true, true, true, true, true, true, true, true, false, false, false, false, false, false, false, false, false, false, false, false] rfl rfl (any_of HT_.out (by kernel_rfl)) (fun _ _ _ h => h) (Or.inl ⟨by rfl, ?_⟩) ?_ ?_
                       rotate_left
                       ·intro w'
                        go_simp
                        with_reducible rfl
                       rotate_left
                       ·simp only [Act.put, List.setIfInBounds_toArray, List.set_cons_zero, List.set_cons_succ, i64_w, i32_w]
                        rfl
                       refine pure_ (i := 26) (N := some 125) (v := ?_) (a' := ?_) #[true, true, true, true, true, true, true, true, true, true, true, true, true, true, true, true, true, true, true, true, true, true, true, true, true, false, true, false, false, false, false, false, false, false, false, false, false] rfl rfl (any_of HT_.out (by kernel_rfl)) (fun _ _ _ h => h) (Or.inl ⟨by rfl, ?_⟩) ?_ ?_
                       rotate_left
                       ·intro w'
                        go_simp
                        with_reducible rfl
                       rotate_left
                       ·simp only [Act.put, List.setIfInBounds_toArray, List.set_cons_zero, List.set_cons_succ, i64_w, i32_w]
                        rfl
                       refine pure_ (i := 30) (N := some 129) (v := ?_) (a' := ?_) #[true, true, true, true, true, true, true, true, true, true, true, true, true, true, true, true, true, true, true, true, true, true, true, true, true, false, true, false, false, false, true, false, false, false, false, false, false] rfl rfl (any_of HT_.out (by kernel_rfl)) (fun _ _ _ h => h) (Or.inl ⟨by rfl, ?_⟩) ?_ ?_
                       rotate_left
                       ·intro w'
                        go_simp
                        with_reducible rfl
                       rotate_left
                       ·simp only [Act.put, List.setIfInBounds_toArray, List.set_cons_zero, List.set_cons_succ, i64_w, i32_w]
                        rfl
                       refine pure_ (i := 32) (N := some 131) (v := ?_) (a' := ?_) #[true, true, true, true, true, true, true, true, true, true, true, true, true, true, true, true, true, true, true, true, true, true, true, true, true, false, true, false, false, false, true, false, true, false, false, false, false] rfl rfl (any_of HT_.out (by kernel_rfl)) (fun _ _ _ h => h) (Or.inl ⟨by rfl, ?_⟩) ?_ ?_
                       rotate_left
                       ·intro w'
                        go_simp
                        with_reducible rfl
                       rotate_left
                       ·simp only [Act.put, List.setIfInBounds_toArray, List.set_cons_zero, List.set_cons_succ, i64_w, i32_w]
                        rfl
                       refine take_ (i := 25) (N := some 124) (v := ?_) (a' := ?_) #[true, true, true, true, true, true, true, true, true, true, true, true, true, true, true, true, true, true, true, true, true, true, true, true, true, true, true, false, false, false, true, false, true, false, false, false, false] rfl rfl (take_ofW HT_.out HW_.out (by kernel_rfl)) (fun _ _ _ h => h) (Or.inl ⟨by rfl, ?_⟩) hHeld ?_ ?_
                       rotate_left
                       ·rintro w' ⟨s0, s1, s2, s3, s4, s5, s6, s7, s8, s9, s10, s11, s12, s13, s14, s15, s16⟩
                        go_simp
                        with_reducible rfl
                       rotate_left
                       ·simp only [Act.put, List.setIfInBounds_toArray, List.set_cons_zero, List.set_cons_succ, i64_w, i32_w]
                        rfl
                       refine pure_ (i := 27) (N := some 126) (v := ?_) (a' := ?_) #[true, true, true, true, true, true, true, true, true, true, true, true, true, true, true, true, true, true, true, true, true, true, true, true, true, true, true, true, false, false, true, false, true, false, false, false, false] rfl rfl (any_of HT_.out (by kernel_rfl)) (fun _ _ _ h => h) (Or.inl ⟨by rfl, ?_⟩) ?_ ?_
                       rotate_left
                       ·intro w'
                        go_simp
                        with_reducible rfl
                       rotate_left
                       ·simp only [Act.put, List.setIfInBounds_toArray, List.set_cons_zero, List.set_cons_succ, i64_w, i32_w]
                        rfl
                       refine pure_ (i := 28) (N := some 127) (v := ?_) (a' := ?_) #[true, true, true, true, true, true, true, true, true, true, true, true, true, true, true, true, true, true, true, true, true, true, true, true, true, true, true, true, true, false, true, false, true, false, false, false, false] rfl rfl (any_of HT_.out (by kernel_rfl)) (fun _ _ _ h => h) (Or.inl ⟨by rfl, ?_⟩) ?_ ?_
                       rotate_left
                       ·intro w'
                        go_simp
                        with_reducible rfl
                       rotate_left
                       ·simp only [Act.put, List.setIfInBounds_toArray, List.set_cons_zero, List.set_cons_succ, i64_w, i32_w]
                        rfl
                       refine take_ (i := 29) (N := some 128) (v := ?_) (a' := ?_) #[true, true, true, true, true, true, true, true, true, true, true, true, true, true, true, true, true, true, true, true, true, true, true, true, true, true, true, true, true, true, true, false, true, false, false, false, false] rfl rfl (take_ofW HT_.out HW_.out (by kernel_rfl)) (fun _ _ _ h => h) (Or.inl ⟨by rfl, ?_⟩) hHeld ?_ ?_
                       rotate_left
                       ·rintro w' ⟨s0, s1, s2, s3, s4, s5, s6, s7, s8, s9, s10, s11, s12, s13, s14, s15, s16⟩
                        go_simp
                        with_reducible rfl
                       rotate_left
                       ·simp only [Act.put, List.setIfInBounds_toArray, List.set_cons_zero, List.set_cons_succ, i64_w, i32_w]
                        rfl
                       refine take_ (i := 31) (N := some 130) (v := ?_) (a' := ?_) #[true, true, true, true, true, true, true, true, true, true, true, true, true, true, true, true, true, true, true, true, true, true, true, true, true, true, true, true, true, true, true, true, true, false, false, false, false] rfl rfl (take_ofW HT_.out HW_.out (by kernel_rfl)) (fun _ _ _ h => h) (Or.inl ⟨by rfl, ?_⟩) hHeld ?_ ?_
                       rotate_left
                       ·rintro w' ⟨s0, s1, s2, s3, s4, s5, s6, s7, s8, s9, s10, s11, s12, s13, s14, s15, s16⟩
                        go_simp
                        with_reducible rfl
                       rotate_left
                       ·simp only [Act.put, List.setIfInBounds_toArray, List.set_cons_zero, List.set_cons_succ, i64_w, i32_w]
                        rfl
                       refine pure_ (i := 33) (N := some 132) (v := ?_) (a' := ?_) #[true, true, true, true, true, true, true, true, true, true, true, true, true, true, true, true, true, true, true, true, true, true, true, true, true, true, true, true, true, true, true, true, true, true, false, false, false] rfl rfl (any_of HT_.out (by kernel_rfl)) (fun _ _ _ h => h) (Or.inl ⟨by rfl, ?_⟩) ?_ ?_
                       rotate_left
                       ·intro w'
                        go_simp
                        with_reducible rfl
                       rotate_left
                       ·simp only [Act.put, List.setIfInBounds_toArray, List.set_cons_zero, List.set_cons_succ, i64_w, i32_w]
                        rfl
                       refine take_ (i := 34) (N := some 133) (v := ?_) (a' := ?_) #[true, true, true, true, true, true, true, true, true, true, true, true, true, true, true, true, true, true, true, true, true, true, true, true, true, true, true, true, true, true, true, true, true, true, true, false, false] rfl rfl (take_ofW HT_.out HW_.out (by kernel_rfl)) (fun _ _ _ h => h) (Or.inl ⟨by rfl, ?_⟩) hHeld ?_ ?_
                       rotate_left
                       ·rintro w' ⟨s0, s1, s2, s3, s4, s5, s6, s7, s8, s9, s10, s11, s12, s13, s14, s15, s16⟩
                        go_simp
                        with_reducible rfl
                       rotate_left
                       ·simp only [Act.put, List.setIfInBounds_toArray, List.set_cons_zero, List.set_cons_succ, i64_w, i32_w]
                        rfl
                       refine pure_ (i := 35) (N := some 134) (v := ?_) (a' := ?_) #[true, true, true, true, true, true, true, true, true, true, true, true, true, true, true, true, true, true, true, true, true, true, true, true, true, true, true, true, true, true, true, true, true, true, true, true, false] rfl rfl (any_of HT_.out (by kernel_rfl)) (fun _ _ _ h => h) (Or.inl ⟨by rfl, ?_⟩) ?_ ?_
                       rotate_left
                       ·intro w'
                        go_simp
                        with_reducible rfl
                       rotate_left
                       ·simp only [Act.put, List.setIfInBounds_toArray, List.set_cons_zero, List.set_cons_succ, i64_w, i32_w]
                        rfl
                       refine pure_ (i := 36) (N := some 135) (v := ?_) (a' := ?_) #[true, true, true, true, true, true, true, true, true, true, true, true, true, true, true, true, true, true, true, true, true, true, true, true, true, true, true, true, true, true, true, true, true, true, true, true, true] rfl rfl (any_of HT_.out (by kernel_rfl)) (fun _ _ _ h => h) (Or.inl ⟨by rfl, ?_⟩) ?_ ?_
                       rotate_left
                       ·intro w'
                        go_simp
                        with_reducible rfl
                       rotate_left
                       ·simp only [Act.put, List.setIfInBounds_toArray, List.set_cons_zero, List.set_cons_succ, i64_w, i32_w]
                        rfl
                       refine done_ (done_of HT_.out (by kernel_rfl)) ?_
                       try go_wp2
                       go_roundg k3
                       case measure => have := HK1.out; have := HJ24.out; have := HK3.out; omega
                       case rel => exact ⟨(wrap64 (x18_3 + 1)), (by first | rfl | (simp; done) | (simp [*]; done)), H', ⟨by have := HK1.out; have := HJ24.out; have := HK3.out; omega⟩, ⟨by (with_reducible repeat (first | apply Kd.R_alloc | apply Kd.R_drewN | apply Kd.R_drew)); exact HO_584003.out⟩, ⟨by (with_reducible repeat (first | apply Kd.R_alloc | apply Kd.R_drewN | apply Kd.R_drew)); exact HO_584006.out⟩, ⟨by (with_reducible repeat (first | apply Kd.N_alloc | apply Kd.N_drewN | apply Kd.N_drew)); exact HO_584007.out⟩, ⟨by (with_reducible repeat (first | apply Kd.R_alloc | apply Kd.R_drewN | apply Kd.R_drew)); exact HO_601003.out⟩, ⟨by (with_reducible repeat (first | apply Kd.R_alloc | apply Kd.R_drewN | apply Kd.R_drew)); exact HO_601006.out⟩, ⟨by (with_reducible repeat (first | apply Kd.N_alloc | apply Kd.N_drewN | apply Kd.N_drew)); exact HO_601007.out⟩, ⟨by (with_reducible repeat (first | refine blk_drewN ?_ _ | refine blk_drew ?_ | refine blk_alloc ?_ _)); exact BK583.out⟩, ⟨by (with_reducible repeat (first | refine blk_drewN ?_ _ | refine blk_drew ?_ | refine blk_alloc ?_ _)); exact BK600.out⟩, ⟨by repeat (first | (with_reducible first | exact HB.out | apply below_alloc | apply pw_below_drewN | apply below_drew1 | refine below_set ?_ GE583.out | refine below_set ?_ GE600.out) | exact HB.out)⟩⟩
                      ·rw [if_neg c85] at H
                       have c85b0 : (((rd_T50 t578 x18_3).f3).toList == (rdOf ByteArray.empty t575 x18_3).toList) = false := beq_eq_false_iff_ne.mpr c85
                       have c85b1 : (((rd_T50 t578 x18_3).f3).toList != (rdOf ByteArray.empty t575 x18_3).toList) = true := bne_iff_ne.mpr c85
                       exact absurd (Option.some.inj H) (by decide)
                     ·rw [if_neg c84] at H
                      exact absurd H (by simp)
                    ·rw [if_neg c83] at H
                     exact absurd H (by simp)
                 ·rw [if_neg c57] at H
                  have c57b0 : decide (x18_3 < (t575.length : Int)) = false := decide_eq_false c57
                  clear c57
                  by_cases c92 : t582 = true
                  ·subst c92
                   have H1 : (if (t575.length : Int) = (l0.length : Int) then ((erratumref05_Same.f k3 t567 t568 t569 t570 t573 t574 t575 t578 t584 t585 t586 t587 t590 t591 t592 t595).bind fun t609 => (if t609 = true then ((erratumlaw06_awake.f k3).bind fun t610 => (some t610)) else (some false))) else (some false)) = some true := by rw [if_pos rfl] at H; exact H
                   clear H
                   have H := H1
                   clear H1
                   by_cases c93 : (t575.length : Int) = (l0.length : Int)
                   ·rw [if_pos c93] at H
                    have c93b0 : ((t575.length : Int) == (l0.length : Int)) = true := beq_iff_eq.mpr c93
                    have c93b1 : ((t575.length : Int) != (l0.length : Int)) = false := bne_eq_false_iff_eq.mpr c93
                    have c93b2 : (t575.length == l0.length) = true := by first | simpa using c93 | (simp at c93 ⊢; omega)
                    clear c93
                    replace H := Option.bind_eq_some_iff.mp H
                    obtain ⟨t609, A940, H⟩ := H
                    replace H : (if t609 = true then ((erratumlaw06_awake.f k3).bind fun t610 => (some t610)) else (some false)) = some true := H
                    have A94 := Aside0.mk A940
                    clear A940
                    by_cases c95 : t609 = true
                    ·subst c95
                     have H1 : ((erratumlaw06_awake.f k3).bind fun t610 => (some t610)) = some true := by rw [if_pos rfl] at H; exact H
                     clear H
                     have H := H1
                     clear H1
                     replace H := Option.bind_eq_some_iff.mp H
                     obtain ⟨t610, A960, H⟩ := H
                     replace H : (some t610) = some true := H
                     have A96 := Aside0.mk A960
                     clear A960
                     obtain rfl := Option.some.inj H
                     have hnb97 := NB583_600.out
                     have hnc97 := NB600_583.out
                     have hcz98_0 : wr.cell? ⟨gb583, 0, none⟩ = some (.int .i64 t567) := (blk_cell BK583.out 0).trans rfl
                     have hcz98_1 : wr.cell? ⟨gb583, 1, none⟩ = some (.bool t568) := (blk_cell BK583.out 1).trans rfl
                     have hcz98_2 : wr.cell? ⟨gb583, 2, none⟩ = some (.bool t569) := (blk_cell BK583.out 2).trans rfl
                     have hcz98_3 : wr.cell? ⟨gb583, 3, none⟩ = some (.slice Ao40 t570.length co40) := (blk_cell BK583.out 3).trans rfl
                     have hcz98_4 : wr.cell? ⟨gb583, 4, none⟩ = some (.int .i64 t573) := (blk_cell BK583.out 4).trans rfl
                     have hcz98_5 : wr.cell? ⟨gb583, 5, none⟩ = some (.string t574) := (blk_cell BK583.out 5).trans rfl
                     have hcz98_6 : wr.cell? ⟨gb583, 6, none⟩ = some (.slice Ao41 t575.length co41) := (blk_cell BK583.out 6).trans rfl
                     have hcz98_7 : wr.cell? ⟨gb583, 7, none⟩ = some (.slice Ao42 t578.length co42) := (blk_cell BK583.out 7).trans rfl
                     have hfz98_0 := blk_frozen BK583.out 0
                     have hfz98_1 := blk_frozen BK583.out 1
                     have hfz98_2 := blk_frozen BK583.out 2
                     have hfz98_3 := blk_frozen BK583.out 3
                     have hfz98_4 := blk_frozen BK583.out 4
                     have hfz98_5 := blk_frozen BK583.out 5
                     have hfz98_6 := blk_frozen BK583.out 6
                     have hfz98_7 := blk_frozen BK583.out 7
                     have hcz99_0 : wr.cell? ⟨gb600, 0, none⟩ = some (.int .i64 t584) := (blk_cell BK600.out 0).trans rfl
                     have hcz99_1 : wr.cell? ⟨gb600, 1, none⟩ = some (.bool t585) := (blk_cell BK600.out 1).trans rfl
                     have hcz99_2 : wr.cell? ⟨gb600, 2, none⟩ = some (.bool t586) := (blk_cell BK600.out 2).trans rfl
                     have hcz99_3 : wr.cell? ⟨gb600, 3, none⟩ = some (.slice Ao50 t587.length co50) := (blk_cell BK600.out 3).trans rfl
                     have hcz99_4 : wr.cell? ⟨gb600, 4, none⟩ = some (.int .i64 t590) := (blk_cell BK600.out 4).trans rfl
                     have hcz99_5 : wr.cell? ⟨gb600, 5, none⟩ = some (.string t591) := (blk_cell BK600.out 5).trans rfl
                     have hcz99_6 : wr.cell? ⟨gb600, 6, none⟩ = some (.slice Ao51 t592.length co51) := (blk_cell BK600.out 6).trans rfl
                     have hcz99_7 : wr.cell? ⟨gb600, 7, none⟩ = some (.slice Ao52 t595.length co52) := (blk_cell BK600.out 7).trans rfl
                     have hfz99_0 := blk_frozen BK600.out 0
                     have hfz99_1 := blk_frozen BK600.out 1
                     have hfz99_2 := blk_frozen BK600.out 2
                     have hfz99_3 := blk_frozen BK600.out 3
                     have hfz99_4 := blk_frozen BK600.out 4
                     have hfz99_5 := blk_frozen BK600.out 5
                     have hfz99_6 := blk_frozen BK600.out 6
                     have hfz99_7 := blk_frozen BK600.out 7
                     go_wp2_with (first | (go_at_call 33; (with_reducible refine (erratumref05_Same.calls k3 t567 t568 t569 _ _ t570 t573 t574 _ _ t575 _ _ t578 t584 t585 t586 _ _ t587 t590 t591 _ _ t592 _ _ t595 true _ ?side1 ?side2 ?side3 ?side4 ?side5 ?side6 ?side7 ?side8 ?side9 ?side10 ?side11 ?side12 A94.out).mono ?_); (case side1 => repeat (first | exact (Kd.R_reads' HO_584003.out).2.2 | (with_reducible refine Kd.C_alloc ?_ _) | (with_reducible refine Kd.C_drewN ?_ _) | (with_reducible refine Kd.C_drew ?_))); (case side2 => exact (Kd.R_reads' HO_584003.out).2.1); (case side3 => repeat (first | exact (Kd.R_reads' HO_584006.out).2.2 | (with_reducible refine Kd.C_alloc ?_ _) | (with_reducible refine Kd.C_drewN ?_ _) | (with_reducible refine Kd.C_drew ?_))); (case side4 => exact (Kd.R_reads' HO_584006.out).2.1); (case side5 => repeat (first | exact (Kd.N_reads' HO_584007.out).2.2 | (with_reducible refine Kd.C_alloc ?_ _) | (with_reducible refine Kd.C_drewN ?_ _) | (with_reducible refine Kd.C_drew ?_))); (case side6 => exact (Kd.N_reads' HO_584007.out).2.1); (case side7 => repeat (first | exact (Kd.R_reads' HO_601003.out).2.2 | (with_reducible refine Kd.C_alloc ?_ _) | (with_reducible refine Kd.C_drewN ?_ _) | (with_reducible refine Kd.C_drew ?_))); (case side8 => exact (Kd.R_reads' HO_601003.out).2.1); (case side9 => repeat (first | exact (Kd.R_reads' HO_601006.out).2.2 | (with_reducible refine Kd.C_alloc ?_ _) | (with_reducible refine Kd.C_drewN ?_ _) | (with_reducible refine Kd.C_drew ?_))); (case side10 => exact (Kd.R_reads' HO_601006.out).2.1); (case side11 => repeat (first | exact (Kd.N_reads' HO_601007.out).2.2 | (with_reducible refine Kd.C_alloc ?_ _) | (with_reducible refine Kd.C_drewN ?_ _) | (with_reducible refine Kd.C_drew ?_))); (case side12 => exact (Kd.N_reads' HO_601007.out).2.1); rintro e w100 ⟨rfl, hb⟩; have n0_ := Aside0.mk (Kd.R_below (by (with_reducible repeat (first | apply Kd.R_alloc | apply Kd.R_drewN | apply Kd.R_drew)); exact HO_584003.out) hb); have n1_ := Aside0.mk (Kd.R_below (by (with_reducible repeat (first | apply Kd.R_alloc | apply Kd.R_drewN | apply Kd.R_drew)); exact HO_584006.out) hb); have n2_ := Aside0.mk (Kd.N_below (by (with_reducible repeat (first | apply Kd.N_alloc | apply Kd.N_drewN | apply Kd.N_drew)); exact HO_584007.out) hb); have n3_ := Aside0.mk (Kd.R_below (by (with_reducible repeat (first | apply Kd.R_alloc | apply Kd.R_drewN | apply Kd.R_drew)); exact HO_601003.out) hb); have n4_ := Aside0.mk (Kd.R_below (by (with_reducible repeat (first | apply Kd.R_alloc | apply Kd.R_drewN | apply Kd.R_drew)); exact HO_601006.out) hb); have n5_ := Aside0.mk (Kd.N_below (by (with_reducible repeat (first | apply Kd.N_alloc | apply Kd.N_drewN | apply Kd.N_drew)); exact HO_601007.out) hb); have n6_ := Aside0.mk (blk_below (g := gb583) (o := .cells #[.int .i64 t567, .bool t568, .bool t569, .slice Ao40 t570.length co40, .int .i64 t573, .string t574, .slice Ao41 t575.length co41, .slice Ao42 t578.length co42] 50 (0, 0)) (by (with_reducible repeat (first | refine blk_drewN ?_ _ | refine blk_drew ?_ | refine blk_alloc ?_ _)); exact BK583.out) hb); have n7_ := Aside0.mk (blk_below (g := gb600) (o := .cells #[.int .i64 t584, .bool t585, .bool t586, .slice Ao50 t587.length co50, .int .i64 t590, .string t591, .slice Ao51 t592.length co51, .slice Ao52 t595.length co52] 50 (0, 0)) (by (with_reducible repeat (first | refine blk_drewN ?_ _ | refine blk_drew ?_ | refine blk_alloc ?_ _)); exact BK600.out) hb); have n8_ := Aside0.mk (below_step (by repeat (first | (with_reducible first | exact HB.out | apply below_alloc | apply pw_below_drewN | apply below_drew1 | refine below_set ?_ GE583.out | refine below_set ?_ GE600.out) | exact HB.out)) hb); clear HO_584003; clear HO_584006; clear HO_584007; clear HO_601003; clear HO_601006; clear HO_601007; clear BK583; clear BK600; clear HB; have HO_584003 := n0_; have HO_584006 := n1_; have HO_584007 := n2_; have HO_601003 := n3_; have HO_601006 := n4_; have HO_601007 := n5_; have BK583 := n6_; have BK600 := n7_; have HB := n8_; clear n0_ n1_ n2_ n3_ n4_ n5_ n6_ n7_ n8_; (try clear hb); (try clear hb2); (try clear hk); (try clear hi)) | (go_at_call 17; (with_reducible refine (erratumlaw06_awake.calls k3  true _ A96.out).mono ?_); rintro e w101 ⟨rfl, hb⟩; have n0_ := Aside0.mk (Kd.R_below (by (with_reducible repeat (first | apply Kd.R_alloc | apply Kd.R_drewN | apply Kd.R_drew)); exact HO_584003.out) hb); have n1_ := Aside0.mk (Kd.R_below (by (with_reducible repeat (first | apply Kd.R_alloc | apply Kd.R_drewN | apply Kd.R_drew)); exact HO_584006.out) hb); have n2_ := Aside0.mk (Kd.N_below (by (with_reducible repeat (first | apply Kd.N_alloc | apply Kd.N_drewN | apply Kd.N_drew)); exact HO_584007.out) hb); have n3_ := Aside0.mk (Kd.R_below (by (with_reducible repeat (first | apply Kd.R_alloc | apply Kd.R_drewN | apply Kd.R_drew)); exact HO_601003.out) hb); have n4_ := Aside0.mk (Kd.R_below (by (with_reducible repeat (first | apply Kd.R_alloc | apply Kd.R_drewN | apply Kd.R_drew)); exact HO_601006.out) hb); have n5_ := Aside0.mk (Kd.N_below (by (with_reducible repeat (first | apply Kd.N_alloc | apply Kd.N_drewN | apply Kd.N_drew)); exact HO_601007.out) hb); have n6_ := Aside0.mk (blk_below (g := gb583) (o := .cells #[.int .i64 t567, .bool t568, .bool t569, .slice Ao40 t570.length co40, .int .i64 t573, .string t574, .slice Ao41 t575.length co41, .slice Ao42 t578.length co42] 50 (0, 0)) (by (with_reducible repeat (first | refine blk_drewN ?_ _ | refine blk_drew ?_ | refine blk_alloc ?_ _)); exact BK583.out) hb); have n7_ := Aside0.mk (blk_below (g := gb600) (o := .cells #[.int .i64 t584, .bool t585, .bool t586, .slice Ao50 t587.length co50, .int .i64 t590, .string t591, .slice Ao51 t592.length co51, .slice Ao52 t595.length co52] 50 (0, 0)) (by (with_reducible repeat (first | refine blk_drewN ?_ _ | refine blk_drew ?_ | refine blk_alloc ?_ _)); exact BK600.out) hb); have n8_ := Aside0.mk (below_step (by repeat (first | (with_reducible first | exact HB.out | apply below_alloc | apply pw_below_drewN | apply below_drew1 | refine below_set ?_ GE583.out | refine below_set ?_ GE600.out) | exact HB.out)) hb); clear HO_584003; clear HO_584006; clear HO_584007; clear HO_601003; clear HO_601006; clear HO_601007; clear BK583; clear BK600; clear HB; have HO_584003 := n0_; have HO_584006 := n1_; have HO_584007 := n2_; have HO_601003 := n3_; have HO_601006 := n4_; have HO_601007 := n5_; have BK583 := n6_; have BK600 := n7_; have HB := n8_; clear n0_ n1_ n2_ n3_ n4_ n5_ n6_ n7_ n8_; (try clear hb); (try clear hb2); (try clear hk); (try clear hi)))
                     go_ret
                     exact ⟨by first | rfl | (simp [errW_none, errW_some] <;> rfl) | (simp [*, errW_none, errW_some] <;> rfl), by repeat (first | (with_reducible first | exact HB.out | apply below_alloc | apply pw_below_drewN | apply below_drew1 | refine below_set ?_ GE583.out | refine below_set ?_ GE600.out) | exact HB.out)⟩
                    ·replace c95 := Bool.eq_false_iff.mpr c95
                     subst c95
                     have H1 : (some false) = some true := by rw [if_neg (show ¬ (false = true) by decide)] at H; exact H
                     clear H
                     have H := H1
                     clear H1
                     exact absurd (Option.some.inj H) (by decide)
                   ·rw [if_neg c93] at H
                    have c93b0 : ((t575.length : Int) == (l0.length : Int)) = false := beq_eq_false_iff_ne.mpr c93
                    have c93b1 : ((t575.length : Int) != (l0.length : Int)) = true := bne_iff_ne.mpr c93
                    have c93b2 : (t575.length == l0.length) = false := by first | simpa using c93 | (simp at c93 ⊢; omega)
                    exact absurd (Option.some.inj H) (by decide)
                  ·replace c92 := Bool.eq_false_iff.mpr c92
                   subst c92
                   have H1 : ((erratumlaw06_awake.f k3).bind fun t611 => (some t611)) = some true := by rw [if_neg (show ¬ (false = true) by decide)] at H; exact H
                   clear H
                   have H := H1
                   clear H1
                   replace H := Option.bind_eq_some_iff.mp H
                   obtain ⟨t611, A1080, H⟩ := H
                   replace H : (some t611) = some true := H
                   have A108 := Aside0.mk A1080
                   clear A1080
                   obtain rfl := Option.some.inj H
                   have hnb109 := NB583_600.out
                   have hnc109 := NB600_583.out
                   have hcz110_0 : wr.cell? ⟨gb583, 0, none⟩ = some (.int .i64 t567) := (blk_cell BK583.out 0).trans rfl
                   have hcz110_1 : wr.cell? ⟨gb583, 1, none⟩ = some (.bool t568) := (blk_cell BK583.out 1).trans rfl
                   have hcz110_2 : wr.cell? ⟨gb583, 2, none⟩ = some (.bool t569) := (blk_cell BK583.out 2).trans rfl
                   have hcz110_3 : wr.cell? ⟨gb583, 3, none⟩ = some (.slice Ao40 t570.length co40) := (blk_cell BK583.out 3).trans rfl
                   have hcz110_4 : wr.cell? ⟨gb583, 4, none⟩ = some (.int .i64 t573) := (blk_cell BK583.out 4).trans rfl
                   have hcz110_5 : wr.cell? ⟨gb583, 5, none⟩ = some (.string t574) := (blk_cell BK583.out 5).trans rfl
                   have hcz110_6 : wr.cell? ⟨gb583, 6, none⟩ = some (.slice Ao41 t575.length co41) := (blk_cell BK583.out 6).trans rfl
                   have hcz110_7 : wr.cell? ⟨gb583, 7, none⟩ = some (.slice Ao42 t578.length co42) := (blk_cell BK583.out 7).trans rfl
                   have hfz110_0 := blk_frozen BK583.out 0
                   have hfz110_1 := blk_frozen BK583.out 1
                   have hfz110_2 := blk_frozen BK583.out 2
                   have hfz110_3 := blk_frozen BK583.out 3
                   have hfz110_4 := blk_frozen BK583.out 4
                   have hfz110_5 := blk_frozen BK583.out 5
                   have hfz110_6 := blk_frozen BK583.out 6
                   have hfz110_7 := blk_frozen BK583.out 7
                   go_wp2_with (first | (go_at_call 17; (with_reducible refine (erratumlaw06_awake.calls k3  true _ A108.out).mono ?_); rintro e w111 ⟨rfl, hb⟩; have n0_ := Aside0.mk (Kd.R_below (by (with_reducible repeat (first | apply Kd.R_alloc | apply Kd.R_drewN | apply Kd.R_drew)); exact HO_584003.out) hb); have n1_ := Aside0.mk (Kd.R_below (by (with_reducible repeat (first | apply Kd.R_alloc | apply Kd.R_drewN | apply Kd.R_drew)); exact HO_584006.out) hb); have n2_ := Aside0.mk (Kd.N_below (by (with_reducible repeat (first | apply Kd.N_alloc | apply Kd.N_drewN | apply Kd.N_drew)); exact HO_584007.out) hb); have n3_ := Aside0.mk (Kd.R_below (by (with_reducible repeat (first | apply Kd.R_alloc | apply Kd.R_drewN | apply Kd.R_drew)); exact HO_601003.out) hb); have n4_ := Aside0.mk (Kd.R_below (by (with_reducible repeat (first | apply Kd.R_alloc | apply Kd.R_drewN | apply Kd.R_drew)); exact HO_601006.out) hb); have n5_ := Aside0.mk (Kd.N_below (by (with_reducible repeat (first | apply Kd.N_alloc | apply Kd.N_drewN | apply Kd.N_drew)); exact HO_601007.out) hb); have n6_ := Aside0.mk (blk_below (g := gb583) (o := .cells #[.int .i64 t567, .bool t568, .bool t569, .slice Ao40 t570.length co40, .int .i64 t573, .string t574, .slice Ao41 t575.length co41, .slice Ao42 t578.length co42] 50 (0, 0)) (by (with_reducible repeat (first | refine blk_drewN ?_ _ | refine blk_drew ?_ | refine blk_alloc ?_ _)); exact BK583.out) hb); have n7_ := Aside0.mk (blk_below (g := gb600) (o := .cells #[.int .i64 t584, .bool t585, .bool t586, .slice Ao50 t587.length co50, .int .i64 t590, .string t591, .slice Ao51 t592.length co51, .slice Ao52 t595.length co52] 50 (0, 0)) (by (with_reducible repeat (first | refine blk_drewN ?_ _ | refine blk_drew ?_ | refine blk_alloc ?_ _)); exact BK600.out) hb); have n8_ := Aside0.mk (below_step (by repeat (first | (with_reducible first | exact HB.out | apply below_alloc | apply pw_below_drewN | apply below_drew1 | refine below_set ?_ GE583.out | refine below_set ?_ GE600.out) | exact HB.out)) hb); clear HO_584003; clear HO_584006; clear HO_584007; clear HO_601003; clear HO_601006; clear HO_601007; clear BK583; clear BK600; clear HB; have HO_584003 := n0_; have HO_584006 := n1_; have HO_584007 := n2_; have HO_601003 := n3_; have HO_601006 := n4_; have HO_601007 := n5_; have BK583 := n6_; have BK600 := n7_; have HB := n8_; clear n0_ n1_ n2_ n3_ n4_ n5_ n6_ n7_ n8_; (try clear hb); (try clear hb2); (try clear hk); (try clear hi)))
                   go_ret
                   exact ⟨by first | rfl | (simp [errW_none, errW_some] <;> rfl) | (simp [*, errW_none, errW_some] <;> rfl), by repeat (first | (with_reducible first | exact HB.out | apply below_alloc | apply pw_below_drewN | apply below_drew1 | refine below_set ?_ GE583.out | refine below_set ?_ GE600.out) | exact HB.out)⟩
           ·rw [if_neg c21] at H
            exact absurd H (by simp)
          ·rw [if_neg c18] at H
           exact absurd H (by simp)
         ·rw [if_neg c17] at H
          exact absurd H (by simp)
        ·rw [if_neg c15] at H
         exact absurd H (by simp)
       ·rw [if_neg c12] at H
        exact absurd H (by simp)
      ·rw [if_neg c11] at H
       exact absurd H (by simp)
     ·rw [if_neg c10] at H
      exact absurd H (by simp)
 ·replace c4 := Bool.eq_false_iff.mpr c4
  subst c4
  have H1 : ((erratumlaw06_awake.f k).bind fun t531 => (some t531)) = some true := by rw [if_neg (show ¬ (false = true) by decide)] at H; exact H
  clear H
  have H := H1
  clear H1
  replace H := Option.bind_eq_some_iff.mp H
  obtain ⟨t531, A1120, H⟩ := H
  replace H : (some t531) = some true := H
  have A112 := Aside0.mk A1120
  clear A1120
  obtain rfl := Option.some.inj H
  go_enter Try.func9, Try.ntmps9
  go_wp2_with (first | ((with_reducible refine gate_callee (f := 16) rfl ?_); refine goesL_ (some 20) rfl rfl Try.func16 (by kernel_rfl) rfl #[.slice A0 l0.length c0] rfl (by (try simp only [List.map_toArray, List.map_cons, List.map_nil]); first | done | rfl | (simp only [List.length_drop, List.length_take]; rfl)) ?_; (with_reducible refine (erratumlaw06_few.calls k _ _ l0 false _ ?side1 ?side2 A3.out).mono ?_); (case side1 => repeat (first | exact HR0.out | (with_reducible refine Kd.C_alloc ?_ _) | (with_reducible refine Kd.C_drewN ?_ _) | (with_reducible refine Kd.C_drew ?_))); (case side2 => exact HC0.out); rintro e w' ⟨rfl, ⟨nd, rfl⟩⟩; refine ⟨_, rfl, ?_⟩) | ((with_reducible refine gate_callee (f := 17) rfl ?_); refine goesL_ (some 22) rfl rfl Try.func17 (by kernel_rfl) rfl #[] rfl (by (try simp only [List.map_toArray, List.map_cons, List.map_nil]); first | done | rfl | (simp only [List.length_drop, List.length_take]; rfl)) ?_; (with_reducible refine (erratumlaw06_awake.calls k  true _ A112.out).mono ?_); rintro e w113 ⟨rfl, hb⟩; refine ⟨_, rfl, ?_⟩; have n0_ := Aside0.mk (below_step (by repeat (first | (with_reducible first | exact HB.out | apply below_alloc | apply pw_below_drewN | apply below_drew1) | exact HB.out)) hb); clear HB; have HB := n0_; clear n0_; (try clear hb); (try clear hb2); (try clear hk); (try clear hi)))
  go_ret
  exact ⟨by first | rfl | (simp [errW_none, errW_some] <;> rfl) | (simp [*, errW_none, errW_some] <;> rfl), by repeat (first | (with_reducible first | exact HB.out | apply below_alloc | apply pw_below_drewN | apply below_drew1) | exact HB.out)⟩
end Go.Proofs.Ytpamgedmgjfjjaa.M
