/-
Lemmas for OrderAll, for every input they speak of: XRefObj.
-/
import Derived.Test.YtpamgedmgjfjjaaKOrderAll03
import Derived.Test.YtpamgedmgjfjjaaKOrderAll15
import Derived.Test.YtpamgedmgjfjjaaKOrderAll17
import Derived.Test.YtpamgedmgjfjjaaKOrderAll19
namespace Go.Proofs.Ytpamgedmgjfjjaa.M
open Go.RowKit Go.Proofs.YtpamgedmgjfjjaaW.PrintWords Go.Proofs.YtpamgedmgjfjjaaW.PrintLast Go.Proofs.YtpamgedmgjfjjaaW.PrintMore
attribute [local go_sem] max2_int min2_int max_two min_two max_three min_three max_four min_four
set_option linter.unusedVariables false
set_option linter.unusedSimpArgs false
def erratumref06_Object.T10 : Bool × List (List Nat × List Nat) := (true, [([], []), ([0], [0]), ([], []), ([], []), ([], []), ([3, 4], [3, 4]), ([5], [5]), ([2, 6], [2, 6]), ([7], [7]), ([8], [8]), ([1, 9], [1, 9]), ([], []), ([11], [11]), ([], []), ([], []), ([], []), ([14, 15], [14, 15]), ([16], [16]), ([13, 17], [13, 17]), ([18], [18]), ([19], [19]), ([12, 20, 10], [12, 20]), ([0, 1, 2, 3, 4, 5, 6, 7, 8, 9, 10, 11, 12], []), ([22, 10, 21, 0, 1, 2, 3, 4, 5, 6, 7, 8, 9, 10, 11, 12], [10, 22]), ([0, 1, 2, 3, 4, 5, 6, 7, 8, 9, 10, 11, 12, 13, 14, 15, 16, 17, 18, 19, 20, 21, 22, 23], []), ([24, 21, 23, 0, 1, 2, 3, 4, 5, 6, 7, 8, 9, 10, 11, 12, 13, 14, 15, 16, 17, 18, 19, 20, 21, 22, 23], [21, 24])])
def erratumref06_Object.B10 : List Nat := [0, 1, 0, 0, 0, 24, 56, 124, 252, 508, 1023, 0, 2048, 0, 0, 0, 49152, 114688, 253952, 516096, 1040384, 2097151, 8191, 8388607, 16777215, 33554431]
theorem erratumref06_Object.tab10 : rtab .any (opsOf Try.f25 10) = erratumref06_Object.T10 := by kernel_rfl
theorem erratumref06_Object.bits10 : waitsOk erratumref06_Object.T10.2 erratumref06_Object.B10 = true := by kernel_rfl
set_option maxHeartbeats 8000000 in
set_option maxRecDepth 100000 in
theorem erratumref06_Object.calls (k : Nat) (A0 : Option Addr) (c0 : Nat) (l0 : List ByteArray) (P1_ : Nat → Prop) (A1 : Option Addr) (c1 : Nat) (l1 : List (S50)) (r1 : Int) (r2 : Bool) (r3 : Bool) (r4 : List Int) (r5 : Int) (r6 : ByteArray) (r7 : List ByteArray) (r8 : List (S50)) (r9 : Int) (r10 : Bool) (w : World) (hr0 : Kd.C Kd.string w A0 l0.length l0) (hc0 : l0.length ≤ c0) (hs1 : Kd.V k50 50 w w.heap.size (fun k_ => P1_ k_) (.slice A1 l1.length c1) l1) (h : erratumref06_Object.f k l0 l1 = some (r1, r2, r3, r4, r5, r6, r7, r8, r9, r10)) :
  Calls Try.prog 25 #[.slice A0 l0.length c0, .slice A1 l1.length c1] w fun e w' => ∃ v3_ v6_ v7_ : Value, e = .returned (.tuple #[.agg #[.int .i64 r1, .bool r2, .bool r3, v3_, .int .i64 r5, .string r6, v6_, v7_], .int .i64 r9, .bool r10]) ∧ Kd.R (Kd.int .u32) 78 w' w.heap.size (fun k_ => (w.heap.size ≤ k_)) v3_ r4 ∧ Kd.R Kd.string 9 w' w.heap.size (fun k_ => (w.heap.size ≤ k_)) v6_ r7 ∧ Kd.N k50 50 w' w.heap.size (fun k_ => (P1_ k_ ∨ w.heap.size ≤ k_) ∧ some k_ ≠ (v3_ : Value).ownBlock ∧ some k_ ≠ (v6_ : Value).ownBlock) v7_ r8 ∧ Below w.heap.size w w' := by
 have hu50 := Try.underlying50
 have HR0 := Aside0.mk hr0
 have HC0 := Aside0.mk hc0
 clear hr0 hc0
 have HO1 := Aside0.mk (show Kd.V k50 50 w w.heap.size (fun k_ => (P1_ k_ ∨ w.heap.size ≤ k_)) (.slice A1 l1.length c1) l1 from Kd.V_mono hs1 (fun k_ hk => .inl hk))
 have HB := Aside0.mk (Below.refl w.heap.size w)
 have H : (if 0 ≤ (mn (l0.length : Int) (l1.length : Int)) then (if (mn (l0.length : Int) (l1.length : Int)) ≤ (l0.length : Int) then ((erratumref06_Twice.f k (l0.take ((mn (l0.length : Int) (l1.length : Int)) : Int).toNat)).bind fun bt397 => (if bt397.2 = true then (some (0, false, false, ([] : List Int), 0, (⟨#[]⟩ : ByteArray), ([] : List ByteArray), ([] : List (S50)), bt397.1, false)) else ((erratumref06_Sort.f k (l0.take ((mn (l0.length : Int) (l1.length : Int)) : Int).toNat)).bind fun t404 => (erratumref06_Object.l0 k l0 l1 t404 0 7 false false 0 (⟨#[]⟩ : ByteArray) ([] : List ByteArray) ([] : List (S50)))))) else (none)) else (none)) = some (r1, r2, r3, r4, r5, r6, r7, r8, r9, r10) := h
 clear h
 obtain ⟨ji3, hji3⟩ : ∃ j_ : Int, (mn (l0.length : Int) (l1.length : Int)) = j_ := ⟨_, rfl⟩
 replace H : (if 0 ≤ (ji3) then (if (ji3) ≤ (l0.length : Int) then ((erratumref06_Twice.f k (l0.take ((ji3) : Int).toNat)).bind fun bt397 => (if bt397.2 = true then (some (0, false, false, ([] : List Int), 0, (⟨#[]⟩ : ByteArray), ([] : List ByteArray), ([] : List (S50)), bt397.1, false)) else ((erratumref06_Sort.f k (l0.take ((ji3) : Int).toNat)).bind fun t404 => (erratumref06_Object.l0 k l0 l1 t404 0 7 false false 0 (⟨#[]⟩ : ByteArray) ([] : List ByteArray) ([] : List (S50)))))) else (none)) else (none)) = some (r1, r2, r3, r4, r5, r6, r7, r8, r9, r10) := by first | (rw [hji3] at H; exact H) | (simp only [hji3] at H ⊢; exact H)
 (try (have hji3l : 0 ≤ ji3 := by (rw [← hji3]; unfold mn; (repeat' split) <;> omega)))
 (try (have hji3m : 0 ≤ ji3 := by omega))
 have hji3_ : (if (l1.length : Int) < (l0.length : Int) then (l1.length : Int) else (l0.length : Int)) = ji3 := hji3
 have hji3n : (if l1.length < l0.length then (l1.length : Int) else (l0.length : Int)) = ji3 := by rw [← hji3_]; (repeat' split) <;> omega
 by_cases c4 : 0 ≤ (ji3)
 rotate_left
 ·rw [if_neg c4] at H
  exact absurd H (by simp)
 rw [if_pos c4] at H
 have c4b0 := eq_true c4
 have c4b1 : decide (0 ≤ (ji3)) = true := decide_eq_true c4
 clear c4
 by_cases c5 : (ji3) ≤ (l0.length : Int)
 rotate_left
 ·rw [if_neg c5] at H
  exact absurd H (by simp)
 rw [if_pos c5] at H
 have c5b0 := eq_true c5
 have c5b1 : decide ((ji3) ≤ (l0.length : Int)) = true := decide_eq_true c5
 clear c5
 obtain ⟨y393, hy393⟩ : ∃ y_ : List ByteArray, y_ = (l0.take ((ji3) : Int).toNat) := ⟨_, rfl⟩
 replace H : ((erratumref06_Twice.f k y393).bind fun bt397 => (if bt397.2 = true then (some (0, false, false, ([] : List Int), 0, (⟨#[]⟩ : ByteArray), ([] : List ByteArray), ([] : List (S50)), bt397.1, false)) else ((erratumref06_Sort.f k (l0.take ((ji3) : Int).toNat)).bind fun t404 => (erratumref06_Object.l0 k l0 l1 t404 0 7 false false 0 (⟨#[]⟩ : ByteArray) ([] : List ByteArray) ([] : List (S50)))))) = some (r1, r2, r3, r4, r5, r6, r7, r8, r9, r10) := by first | (rw [hy393]; with_reducible exact H) | (have H2_ := (Option.bind_some _ _).symm.trans H; rw [hy393]; with_reducible exact H2_) | (have H2_ := (Option.bind_some _ _).symm.trans H; with_reducible exact H2_) | with_reducible exact H | (rw [hy393]; exact H) | exact H
 have Ny393 := Aside0.mk hy393
 clear hy393
 replace H := Option.bind_eq_some_iff.mp H
 obtain ⟨⟨t397, t398⟩, A60, H⟩ := H
 replace H : (if t398 = true then (some (0, false, false, ([] : List Int), 0, (⟨#[]⟩ : ByteArray), ([] : List ByteArray), ([] : List (S50)), t397, false)) else ((erratumref06_Sort.f k (l0.take ((ji3) : Int).toNat)).bind fun t404 => (erratumref06_Object.l0 k l0 l1 t404 0 7 false false 0 (⟨#[]⟩ : ByteArray) ([] : List ByteArray) ([] : List (S50))))) = some (r1, r2, r3, r4, r5, r6, r7, r8, r9, r10) := H
 have A6 := Aside0.mk A60
 clear A60
 by_cases c7 : t398 = true
 ·subst c7
  have H1 : (some (0, false, false, ([] : List Int), 0, (⟨#[]⟩ : ByteArray), ([] : List ByteArray), ([] : List (S50)), t397, false)) = some (r1, r2, r3, r4, r5, r6, r7, r8, r9, r10) := by rw [if_pos rfl] at H; exact H
  clear H
  have H := H1
  clear H1
  simp only [Option.some.injEq, Prod.mk.injEq] at H
  obtain ⟨rfl, rfl, rfl, rfl, rfl, rfl, rfl, rfl, rfl, rfl⟩ := H
  go_enter Try.func25, Try.ntmps25
  go_wp2_with (first | ((with_reducible refine gate_dst (N := 4) rfl ?_); refine box_event ?hg (N := 4) ?hd (cs := #[.int .i64 0, .bool false, .bool false, .slice none 0 0, .int .i64 0, .string (⟨#[]⟩ : ByteArray), .slice none 0 0, .slice none 0 0]) (t := 50) ?hr ?_; (case hd => rfl); (case hg => rfl); (case hr => first | (go_simp; done) | (go_simp; rfl)); intro gb392 hg w8 hbox hb; have n0_ := Aside0.mk (Kd.V_below (Kd.V_elderB (by (with_reducible repeat (first | apply Kd.V_alloc | apply Kd.V_drewN | apply Kd.V_drew)); exact HO1.out) gb392 (Nat.le_of_eq hg.symm)) hb); have n1_ := Aside0.mk (below_step (by repeat (first | (with_reducible first | exact HB.out | apply below_alloc | apply pw_below_drewN | apply below_drew1) | exact HB.out)) hb); have n2_ := Aside0.mk (hbox); have n3_ := Aside0.mk ((by rw [hg]; exact (below_size (by repeat (first | (with_reducible first | exact HB.out | apply below_alloc | apply pw_below_drewN | apply below_drew1) | exact HB.out))) : w.heap.size ≤ gb392)); have n4_ := Aside0.mk ((by rw [hg]; exact (below_size (by repeat (first | (with_reducible first | exact HB.out | apply below_alloc | apply pw_below_drewN | apply below_drew1) | exact HB.out))) : w.heap.size ≤ gb392)); clear HO1; clear HB; have HO1 := n0_; have HB := n1_; have BK392 := n2_; have GW392 := n3_; have GE392 := n4_; clear n0_ n1_ n2_ n3_ n4_; clear hb hbox hg; have q9 : ((ji3) : Int) ≤ ((l0.length : Int) : Int) := of_decide_eq_true (by first | (with_reducible assumption) | assumption); obtain ⟨i09, hi09, _, hsz9, _⟩ := info_parts info9; have hroom9 : l0.length ≤ c0 := HC0.out; have hC9 : Kd.C Kd.string _ A0 l0.length l0 := HR0.out; have hcut9 := cut_to (P := Try.prog) 35 9 .i64 Try.underlying35 hi09 A0 l0.length c0 (ji3) (of_decide_eq_true (by first | (with_reducible assumption) | assumption)) q9 hroom9; have hr9 := Kd.C_take (m := ((ji3) : Int).toNat) hC9 (by omega); have hy9 : y393.length = ((ji3) : Int).toNat := (by rw [Ny393.out, List.length_take]; omega); rw [← Ny393.out] at hr9; rw [← hy9] at hcut9; have HR396 := Aside0.mk hr9; have HC396 := Aside0.mk (show y393.length ≤ c0 from by omega); clear hr9 hC9 hroom9 hi09 hsz9; have KY9 := Aside0.mk hy9; clear hy9; replace q9 := eq_true q9) | ((with_reducible refine gate_callee (f := 26) rfl ?_); refine goesL_ (some 22) rfl rfl Try.func26 (by kernel_rfl) rfl #[.slice A0 y393.length c0] rfl (by (try simp only [List.map_toArray, List.map_cons, List.map_nil]); first | done | rfl | (simp only [List.length_drop, List.length_take]; rfl)) ?_; (with_reducible refine (erratumref06_Twice.calls k _ _ y393 t397 true _ ?side1 ?side2 A6.out).mono ?_); (case side1 => repeat (first | exact (Kd.C_below HR396.out HB.out) | (with_reducible refine Kd.C_alloc ?_ _) | (with_reducible refine Kd.C_drewN ?_ _) | (with_reducible refine Kd.C_drew ?_))); (case side2 => exact HC396.out); rintro e w' ⟨rfl, ⟨nd, rfl⟩⟩; refine ⟨_, rfl, ?_⟩; (try (rw [drewN_self w8]; generalize hq_ : World.drewN w8 _ = w8; have n0_ : Aside0 (Kd.V k50 50 w8 w.heap.size (fun k_ => (P1_ k_ ∨ w.heap.size ≤ k_) ∧ k_ ≠ gb392) (.slice A1 l1.length c1) l1) := ⟨by rw [← hq_]; exact (by (with_reducible repeat (first | apply Kd.V_alloc | apply Kd.V_drewN | apply Kd.V_drew)); exact HO1.out)⟩; have n1_ : Aside0 (w8.heap[gb392]? = some (.cells #[.int .i64 0, .bool false, .bool false, .slice none 0 0, .int .i64 0, .string (⟨#[]⟩ : ByteArray), .slice none 0 0, .slice none 0 0] 50 (0, 0))) := ⟨by rw [← hq_]; exact (by (with_reducible repeat (first | refine blk_drewN ?_ _ | refine blk_drew ?_ | refine blk_alloc ?_ _)); exact BK392.out)⟩; have n2_ : Aside0 (Below w.heap.size w w8) := ⟨by rw [← hq_]; exact (by repeat (first | (with_reducible first | exact HB.out | apply below_alloc | apply pw_below_drewN | apply below_drew1 | refine below_set ?_ GE392.out) | exact HB.out))⟩; clear HO1 BK392 HB hq_; have HO1 := n0_; have BK392 := n1_; have HB := n2_; clear n0_ n1_ n2_)); have hcz10_0 : w8.cell? ⟨gb392, 0, none⟩ = some (.int .i64 0) := (blk_cell BK392.out 0).trans rfl; have hcz10_1 : w8.cell? ⟨gb392, 1, none⟩ = some (.bool false) := (blk_cell BK392.out 1).trans rfl; have hcz10_2 : w8.cell? ⟨gb392, 2, none⟩ = some (.bool false) := (blk_cell BK392.out 2).trans rfl; have hcz10_3 : w8.cell? ⟨gb392, 3, none⟩ = some (.slice none 0 0) := (blk_cell BK392.out 3).trans rfl; have hcz10_4 : w8.cell? ⟨gb392, 4, none⟩ = some (.int .i64 0) := (blk_cell BK392.out 4).trans rfl; have hcz10_5 : w8.cell? ⟨gb392, 5, none⟩ = some (.string (⟨#[]⟩ : ByteArray)) := (blk_cell BK392.out 5).trans rfl; have hcz10_6 : w8.cell? ⟨gb392, 6, none⟩ = some (.slice none 0 0) := (blk_cell BK392.out 6).trans rfl; have hcz10_7 : w8.cell? ⟨gb392, 7, none⟩ = some (.slice none 0 0) := (blk_cell BK392.out 7).trans rfl; have hfz10_0 := blk_frozen BK392.out 0; have hfz10_1 := blk_frozen BK392.out 1; have hfz10_2 := blk_frozen BK392.out 2; have hfz10_3 := blk_frozen BK392.out 3; have hfz10_4 := blk_frozen BK392.out 4; have hfz10_5 := blk_frozen BK392.out 5; have hfz10_6 := blk_frozen BK392.out 6; have hfz10_7 := blk_frozen BK392.out 7))
  refine bodyPost_ret (results_ctt rfl _ _ gb392 50 #[.int .i64 0, .bool false, .bool false, .slice none 0 0, .int .i64 0, .string (⟨#[]⟩ : ByteArray), .slice none 0 0, .slice none 0 0] (0, 0) _ rfl (by (with_reducible repeat (first | refine blk_drewN ?_ _ | refine blk_drew ?_ | refine blk_alloc ?_ _)); refine blk_put (cs := #[.int .i64 0, .bool false, .bool false, .slice none 0 0, .int .i64 0, .string (⟨#[]⟩ : ByteArray), .slice none 0 0, .slice none 0 0]) ?_ 7 _ rfl; (with_reducible repeat (first | refine blk_drewN ?_ _ | refine blk_drew ?_ | refine blk_alloc ?_ _)); refine blk_put (cs := #[.int .i64 0, .bool false, .bool false, .slice none 0 0, .int .i64 0, .string (⟨#[]⟩ : ByteArray), .slice none 0 0, .slice none 0 0]) ?_ 6 _ rfl; (with_reducible repeat (first | refine blk_drewN ?_ _ | refine blk_drew ?_ | refine blk_alloc ?_ _)); refine blk_put (cs := #[.int .i64 0, .bool false, .bool false, .slice none 0 0, .int .i64 0, .string (⟨#[]⟩ : ByteArray), .slice none 0 0, .slice none 0 0]) ?_ 5 _ rfl; (with_reducible repeat (first | refine blk_drewN ?_ _ | refine blk_drew ?_ | refine blk_alloc ?_ _)); refine blk_put (cs := #[.int .i64 0, .bool false, .bool false, .slice none 0 0, .int .i64 0, .string (⟨#[]⟩ : ByteArray), .slice none 0 0, .slice none 0 0]) ?_ 4 _ rfl; (with_reducible repeat (first | refine blk_drewN ?_ _ | refine blk_drew ?_ | refine blk_alloc ?_ _)); refine blk_put (cs := #[.int .i64 0, .bool false, .bool false, .slice none 0 0, .int .i64 0, .string (⟨#[]⟩ : ByteArray), .slice none 0 0, .slice none 0 0]) ?_ 3 _ rfl; (with_reducible repeat (first | refine blk_drewN ?_ _ | refine blk_drew ?_ | refine blk_alloc ?_ _)); refine blk_put (cs := #[.int .i64 0, .bool false, .bool false, .slice none 0 0, .int .i64 0, .string (⟨#[]⟩ : ByteArray), .slice none 0 0, .slice none 0 0]) ?_ 2 _ rfl; (with_reducible repeat (first | refine blk_drewN ?_ _ | refine blk_drew ?_ | refine blk_alloc ?_ _)); refine blk_put (cs := #[.int .i64 0, .bool false, .bool false, .slice none 0 0, .int .i64 0, .string (⟨#[]⟩ : ByteArray), .slice none 0 0, .slice none 0 0]) ?_ 1 _ rfl; (with_reducible repeat (first | refine blk_drewN ?_ _ | refine blk_drew ?_ | refine blk_alloc ?_ _)); refine blk_put (cs := #[.int .i64 0, .bool false, .bool false, .slice none 0 0, .int .i64 0, .string (⟨#[]⟩ : ByteArray), .slice none 0 0, .slice none 0 0]) ?_ 0 _ rfl; (with_reducible repeat (first | refine blk_drewN ?_ _ | refine blk_drew ?_ | refine blk_alloc ?_ _)); exact BK392.out) Try.underlying50 rfl (by kernel_rfl)) rfl ?_
  exact ⟨_, _, _, by first | rfl | (simp [errW_none, errW_some] <;> rfl) | (simp only [← hji3]; first | rfl | (simp [errW_none, errW_some] <;> rfl)) | (simp [*, errW_none, errW_some] <;> rfl), by first | exact Kd.R_nil _ _ _ _ _ | exact Kd.N_nil _ _ _ _ _ | exact Kd.V_nil _ _ _ _ _ | exact Kd.Q_nil _ _ _ _ _ | exact Kd.S_nil _ _ _ _ _, by first | exact Kd.R_nil _ _ _ _ _ | exact Kd.N_nil _ _ _ _ _ | exact Kd.V_nil _ _ _ _ _ | exact Kd.Q_nil _ _ _ _ _ | exact Kd.S_nil _ _ _ _ _, by first | exact Kd.R_nil _ _ _ _ _ | exact Kd.N_nil _ _ _ _ _ | exact Kd.V_nil _ _ _ _ _ | exact Kd.Q_nil _ _ _ _ _ | exact Kd.S_nil _ _ _ _ _, by repeat (first | (with_reducible first | exact HB.out | apply below_alloc | apply pw_below_drewN | apply below_drew1 | refine below_set ?_ GE392.out) | exact HB.out)⟩
 replace c7 := Bool.eq_false_iff.mpr c7
 subst c7
 have H1 : ((erratumref06_Sort.f k (l0.take ((ji3) : Int).toNat)).bind fun t404 => (erratumref06_Object.l0 k l0 l1 t404 0 7 false false 0 (⟨#[]⟩ : ByteArray) ([] : List ByteArray) ([] : List (S50)))) = some (r1, r2, r3, r4, r5, r6, r7, r8, r9, r10) := by rw [if_neg (show ¬ (false = true) by decide)] at H; exact H
 clear H
 have H := H1
 clear H1
 have c11b0 := eq_true (of_decide_eq_true (by first | (with_reducible assumption) | assumption) : 0 ≤ (ji3))
 have c12b0 := eq_true (of_decide_eq_true (by first | (with_reducible assumption) | assumption) : (ji3) ≤ (l0.length : Int))
 have hy400 : y393 = (l0.take ((ji3) : Int).toNat) := Ny393.out
 replace H : ((erratumref06_Sort.f k y393).bind fun t404 => (erratumref06_Object.l0 k l0 l1 t404 0 7 false false 0 (⟨#[]⟩ : ByteArray) ([] : List ByteArray) ([] : List (S50)))) = some (r1, r2, r3, r4, r5, r6, r7, r8, r9, r10) := by first | (rw [hy400]; with_reducible exact H) | (have H2_ := (Option.bind_some _ _).symm.trans H; rw [hy400]; with_reducible exact H2_) | (have H2_ := (Option.bind_some _ _).symm.trans H; with_reducible exact H2_) | with_reducible exact H | (rw [hy400]; exact H) | exact H
 have Ny400 := Aside0.mk hy400
 clear hy400
 replace H := Option.bind_eq_some_iff.mp H
 obtain ⟨t404, A130, H⟩ := H
 replace H : (erratumref06_Object.l0 k l0 l1 t404 0 7 false false 0 (⟨#[]⟩ : ByteArray) ([] : List ByteArray) ([] : List (S50))) = some (r1, r2, r3, r4, r5, r6, r7, r8, r9, r10) := H
 have A13 := Aside0.mk A130
 clear A130
 have H' := Aside0.mk H
 clear H
 go_enter Try.func25, Try.ntmps25
 go_wp2_with (first | ((with_reducible refine gate_dst (N := 4) rfl ?_); refine box_event ?hg (N := 4) ?hd (cs := #[.int .i64 0, .bool false, .bool false, .slice none 0 0, .int .i64 0, .string (⟨#[]⟩ : ByteArray), .slice none 0 0, .slice none 0 0]) (t := 50) ?hr ?_; (case hd => rfl); (case hg => rfl); (case hr => first | (go_simp; done) | (go_simp; rfl)); intro gb392 hg w14 hbox hb; have n0_ := Aside0.mk (Kd.V_below (Kd.V_elderB (by (with_reducible repeat (first | apply Kd.V_alloc | apply Kd.V_drewN | apply Kd.V_drew)); exact HO1.out) gb392 (Nat.le_of_eq hg.symm)) hb); have n1_ := Aside0.mk (below_step (by repeat (first | (with_reducible first | exact HB.out | apply below_alloc | apply pw_below_drewN | apply below_drew1) | exact HB.out)) hb); have n2_ := Aside0.mk (hbox); have n3_ := Aside0.mk ((by rw [hg]; exact (below_size (by repeat (first | (with_reducible first | exact HB.out | apply below_alloc | apply pw_below_drewN | apply below_drew1) | exact HB.out))) : w.heap.size ≤ gb392)); have n4_ := Aside0.mk ((by rw [hg]; exact (below_size (by repeat (first | (with_reducible first | exact HB.out | apply below_alloc | apply pw_below_drewN | apply below_drew1) | exact HB.out))) : w.heap.size ≤ gb392)); clear HO1; clear HB; have HO1 := n0_; have HB := n1_; have BK392 := n2_; have GW392 := n3_; have GE392 := n4_; clear n0_ n1_ n2_ n3_ n4_; clear hb hbox hg; have q15 : ((ji3) : Int) ≤ ((l0.length : Int) : Int) := of_decide_eq_true (by first | (with_reducible assumption) | assumption); obtain ⟨i015, hi015, _, hsz15, _⟩ := info_parts info9; have hroom15 : l0.length ≤ c0 := HC0.out; have hC15 : Kd.C Kd.string _ A0 l0.length l0 := HR0.out; have hcut15 := cut_to (P := Try.prog) 35 9 .i64 Try.underlying35 hi015 A0 l0.length c0 (ji3) (of_decide_eq_true (by first | (with_reducible assumption) | assumption)) q15 hroom15; have hr15 := Kd.C_take (m := ((ji3) : Int).toNat) hC15 (by omega); have hy15 : y393.length = ((ji3) : Int).toNat := (by rw [Ny393.out, List.length_take]; omega); rw [← Ny393.out] at hr15; rw [← hy15] at hcut15; have HR396 := Aside0.mk hr15; have HC396 := Aside0.mk (show y393.length ≤ c0 from by omega); clear hr15 hC15 hroom15 hi015 hsz15; have KY15 := Aside0.mk hy15; clear hy15; replace q15 := eq_true q15) | ((with_reducible refine gate_callee (f := 26) rfl ?_); refine goesL_ (some 22) rfl rfl Try.func26 (by kernel_rfl) rfl #[.slice A0 y393.length c0] rfl (by (try simp only [List.map_toArray, List.map_cons, List.map_nil]); first | done | rfl | (simp only [List.length_drop, List.length_take]; rfl)) ?_; (with_reducible refine (erratumref06_Twice.calls k _ _ y393 t397 false _ ?side1 ?side2 A6.out).mono ?_); (case side1 => repeat (first | exact (Kd.C_below HR396.out HB.out) | (with_reducible refine Kd.C_alloc ?_ _) | (with_reducible refine Kd.C_drewN ?_ _) | (with_reducible refine Kd.C_drew ?_))); (case side2 => exact HC396.out); rintro e w' ⟨rfl, ⟨nd, rfl⟩⟩; refine ⟨_, rfl, ?_⟩; (try (rw [drewN_self w14]; generalize hq_ : World.drewN w14 _ = w14; have n0_ : Aside0 (Kd.V k50 50 w14 w.heap.size (fun k_ => (P1_ k_ ∨ w.heap.size ≤ k_) ∧ k_ ≠ gb392) (.slice A1 l1.length c1) l1) := ⟨by rw [← hq_]; exact (by (with_reducible repeat (first | apply Kd.V_alloc | apply Kd.V_drewN | apply Kd.V_drew)); exact HO1.out)⟩; have n1_ : Aside0 (w14.heap[gb392]? = some (.cells #[.int .i64 0, .bool false, .bool false, .slice none 0 0, .int .i64 0, .string (⟨#[]⟩ : ByteArray), .slice none 0 0, .slice none 0 0] 50 (0, 0))) := ⟨by rw [← hq_]; exact (by (with_reducible repeat (first | refine blk_drewN ?_ _ | refine blk_drew ?_ | refine blk_alloc ?_ _)); exact BK392.out)⟩; have n2_ : Aside0 (Below w.heap.size w w14) := ⟨by rw [← hq_]; exact (by repeat (first | (with_reducible first | exact HB.out | apply below_alloc | apply pw_below_drewN | apply below_drew1 | refine below_set ?_ GE392.out) | exact HB.out))⟩; clear HO1 BK392 HB hq_; have HO1 := n0_; have BK392 := n1_; have HB := n2_; clear n0_ n1_ n2_))) | ((with_reducible refine gate_dst (N := 10) rfl ?_); refine box_event ?hg (N := 10) ?hd (cs := #[.int .i64 0, .bool false, .bool false, .slice none 0 0, .int .i64 0, .string (⟨#[]⟩ : ByteArray), .slice none 0 0, .slice none 0 0]) (t := 50) ?hr ?_; (case hd => rfl); (case hg => rfl); (case hr => first | (go_simp; done) | (go_simp; rfl)); intro gb399 hg w16 hbox hb; have n0_ := Aside0.mk (Kd.V_below (Kd.V_elderB (by (with_reducible repeat (first | apply Kd.V_alloc | apply Kd.V_drewN | apply Kd.V_drew)); exact HO1.out) gb399 (Nat.le_of_eq hg.symm)) hb); have n1_ := Aside0.mk (blk_below (g := gb392) (o := .cells #[.int .i64 0, .bool false, .bool false, .slice none 0 0, .int .i64 0, .string (⟨#[]⟩ : ByteArray), .slice none 0 0, .slice none 0 0] 50 (0, 0)) (by (with_reducible repeat (first | refine blk_drewN ?_ _ | refine blk_drew ?_ | refine blk_alloc ?_ _)); exact BK392.out) hb); have n2_ := Aside0.mk (below_step (by repeat (first | (with_reducible first | exact HB.out | apply below_alloc | apply pw_below_drewN | apply below_drew1 | refine below_set ?_ GE392.out) | exact HB.out)) hb); have n3_ := Aside0.mk (hbox); have n4_ := Aside0.mk ((by rw [hg]; exact (below_size (by repeat (first | (with_reducible first | exact HB.out | apply below_alloc | apply pw_below_drewN | apply below_drew1 | refine below_set ?_ GE392.out) | exact HB.out))) : w.heap.size ≤ gb399)); have n5_ := Aside0.mk ((by rw [hg]; exact (below_size (by repeat (first | (with_reducible first | exact HB.out | apply below_alloc | apply pw_below_drewN | apply below_drew1 | refine below_set ?_ GE392.out) | exact HB.out))) : w.heap.size ≤ gb399)); have n6_ := Aside0.mk ((by rw [hg]; exact Nat.ne_of_lt (blk_lt (g := gb392) (o := .cells #[.int .i64 0, .bool false, .bool false, .slice none 0 0, .int .i64 0, .string (⟨#[]⟩ : ByteArray), .slice none 0 0, .slice none 0 0] 50 (0, 0)) (by (with_reducible repeat (first | refine blk_drewN ?_ _ | refine blk_drew ?_ | refine blk_alloc ?_ _)); exact BK392.out)) : gb392 ≠ gb399)); have n7_ := Aside0.mk ((by rw [hg]; exact Nat.ne_of_gt (blk_lt (g := gb392) (o := .cells #[.int .i64 0, .bool false, .bool false, .slice none 0 0, .int .i64 0, .string (⟨#[]⟩ : ByteArray), .slice none 0 0, .slice none 0 0] 50 (0, 0)) (by (with_reducible repeat (first | refine blk_drewN ?_ _ | refine blk_drew ?_ | refine blk_alloc ?_ _)); exact BK392.out)) : gb399 ≠ gb392)); clear HO1; clear BK392; clear HB; have HO1 := n0_; have BK392 := n1_; have HB := n2_; have BK399 := n3_; have GW399 := n4_; have GE399 := n5_; have NB392_399 := n6_; have NB399_392 := n7_; clear n0_ n1_ n2_ n3_ n4_ n5_ n6_ n7_; clear hb hbox hg; have hnb17 := NB399_392.out; have hnc17 := NB392_399.out; have hcz18_0 : w16.cell? ⟨gb399, 0, none⟩ = some (.int .i64 0) := (blk_cell BK399.out 0).trans rfl; have hcz18_1 : w16.cell? ⟨gb399, 1, none⟩ = some (.bool false) := (blk_cell BK399.out 1).trans rfl; have hcz18_2 : w16.cell? ⟨gb399, 2, none⟩ = some (.bool false) := (blk_cell BK399.out 2).trans rfl; have hcz18_3 : w16.cell? ⟨gb399, 3, none⟩ = some (.slice none 0 0) := (blk_cell BK399.out 3).trans rfl; have hcz18_4 : w16.cell? ⟨gb399, 4, none⟩ = some (.int .i64 0) := (blk_cell BK399.out 4).trans rfl; have hcz18_5 : w16.cell? ⟨gb399, 5, none⟩ = some (.string (⟨#[]⟩ : ByteArray)) := (blk_cell BK399.out 5).trans rfl; have hcz18_6 : w16.cell? ⟨gb399, 6, none⟩ = some (.slice none 0 0) := (blk_cell BK399.out 6).trans rfl; have hcz18_7 : w16.cell? ⟨gb399, 7, none⟩ = some (.slice none 0 0) := (blk_cell BK399.out 7).trans rfl; have hfz18_0 := blk_frozen BK399.out 0; have hfz18_1 := blk_frozen BK399.out 1; have hfz18_2 := blk_frozen BK399.out 2; have hfz18_3 := blk_frozen BK399.out 3; have hfz18_4 := blk_frozen BK399.out 4; have hfz18_5 := blk_frozen BK399.out 5; have hfz18_6 := blk_frozen BK399.out 6; have hfz18_7 := blk_frozen BK399.out 7) | ((with_reducible refine gate_store (t := 50) (p := 10) rfl ?_); refine store_event (t := 50) (p := 10) (v := ?vo_w19) (w1 := ((((((((w16.setCell ⟨gb399, 0, none⟩ (.int .i64 7)).setCell ⟨gb399, 1, none⟩ (.bool false)).setCell ⟨gb399, 2, none⟩ (.bool false)).setCell ⟨gb399, 3, none⟩ (.slice none 0 0)).setCell ⟨gb399, 4, none⟩ (.int .i64 0)).setCell ⟨gb399, 5, none⟩ (.string (⟨#[]⟩ : ByteArray))).setCell ⟨gb399, 6, none⟩ (.slice none 0 0)).setCell ⟨gb399, 7, none⟩ (.slice none 0 0))) ?hg ?ho ?hn ?hr ?_; (case ho => rfl); (case hg => rfl); (case hn => rfl); (case hr => first | (go_simp; done) | (go_simp; rfl)); intro w19 hw; have n0_ : Aside0 (Kd.V k50 50 w19 w.heap.size (fun k_ => (P1_ k_ ∨ w.heap.size ≤ k_) ∧ k_ ≠ gb392 ∧ k_ ≠ gb399) (.slice A1 l1.length c1) l1) := ⟨(by rw [hw]; exact (by (with_reducible repeat (first | apply Kd.V_alloc | apply Kd.V_drewN | apply Kd.V_drew)); exact Kd.V_mono (Kd.V_far (p := ⟨gb399, 7, none⟩) (Kd.V_far (p := ⟨gb399, 6, none⟩) (Kd.V_far (p := ⟨gb399, 5, none⟩) (Kd.V_far (p := ⟨gb399, 4, none⟩) (Kd.V_far (p := ⟨gb399, 3, none⟩) (Kd.V_far (p := ⟨gb399, 2, none⟩) (Kd.V_far (p := ⟨gb399, 1, none⟩) (Kd.V_far (p := ⟨gb399, 0, none⟩) (Kd.V_mono HO1.out (fun k_ hk => (⟨hk, hk.2⟩ : _ ∧ k_ ≠ gb399))) (fun _ hk => hk.2) (.int .i64 7)) (fun _ hk => hk.2) (.bool false)) (fun _ hk => hk.2) (.bool false)) (fun _ hk => hk.2) (.slice none 0 0)) (fun _ hk => hk.2) (.int .i64 0)) (fun _ hk => hk.2) (.string (⟨#[]⟩ : ByteArray))) (fun _ hk => hk.2) (.slice none 0 0)) (fun _ hk => hk.2) (.slice none 0 0)) (fun _ hk => ⟨hk.1.1.1, ⟨hk.1.1.2, hk.1.2⟩⟩)))⟩; have n1_ : Aside0 (w19.heap[gb392]? = some (.cells #[.int .i64 0, .bool false, .bool false, .slice none 0 0, .int .i64 0, .string (⟨#[]⟩ : ByteArray), .slice none 0 0, .slice none 0 0] 50 (0, 0))) := ⟨(by rw [hw]; exact (by (with_reducible repeat (first | refine blk_drewN ?_ _ | refine blk_drew ?_ | refine blk_alloc ?_ _)); refine blk_far ?_ NB392_399.out _; (with_reducible repeat (first | refine blk_drewN ?_ _ | refine blk_drew ?_ | refine blk_alloc ?_ _)); refine blk_far ?_ NB392_399.out _; (with_reducible repeat (first | refine blk_drewN ?_ _ | refine blk_drew ?_ | refine blk_alloc ?_ _)); refine blk_far ?_ NB392_399.out _; (with_reducible repeat (first | refine blk_drewN ?_ _ | refine blk_drew ?_ | refine blk_alloc ?_ _)); refine blk_far ?_ NB392_399.out _; (with_reducible repeat (first | refine blk_drewN ?_ _ | refine blk_drew ?_ | refine blk_alloc ?_ _)); refine blk_far ?_ NB392_399.out _; (with_reducible repeat (first | refine blk_drewN ?_ _ | refine blk_drew ?_ | refine blk_alloc ?_ _)); refine blk_far ?_ NB392_399.out _; (with_reducible repeat (first | refine blk_drewN ?_ _ | refine blk_drew ?_ | refine blk_alloc ?_ _)); refine blk_far ?_ NB392_399.out _; (with_reducible repeat (first | refine blk_drewN ?_ _ | refine blk_drew ?_ | refine blk_alloc ?_ _)); refine blk_far ?_ NB392_399.out _; (with_reducible repeat (first | refine blk_drewN ?_ _ | refine blk_drew ?_ | refine blk_alloc ?_ _)); exact BK392.out))⟩; have n2_ : Aside0 (w19.heap[gb399]? = some (.cells #[.int .i64 7, .bool false, .bool false, .slice none 0 0, .int .i64 0, .string (⟨#[]⟩ : ByteArray), .slice none 0 0, .slice none 0 0] 50 (0, 0))) := ⟨(by rw [hw]; exact (by (with_reducible repeat (first | refine blk_drewN ?_ _ | refine blk_drew ?_ | refine blk_alloc ?_ _)); refine blk_put (cs := #[.int .i64 7, .bool false, .bool false, .slice none 0 0, .int .i64 0, .string (⟨#[]⟩ : ByteArray), .slice none 0 0, .slice none 0 0]) ?_ 7 _ rfl; (with_reducible repeat (first | refine blk_drewN ?_ _ | refine blk_drew ?_ | refine blk_alloc ?_ _)); refine blk_put (cs := #[.int .i64 7, .bool false, .bool false, .slice none 0 0, .int .i64 0, .string (⟨#[]⟩ : ByteArray), .slice none 0 0, .slice none 0 0]) ?_ 6 _ rfl; (with_reducible repeat (first | refine blk_drewN ?_ _ | refine blk_drew ?_ | refine blk_alloc ?_ _)); refine blk_put (cs := #[.int .i64 7, .bool false, .bool false, .slice none 0 0, .int .i64 0, .string (⟨#[]⟩ : ByteArray), .slice none 0 0, .slice none 0 0]) ?_ 5 _ rfl; (with_reducible repeat (first | refine blk_drewN ?_ _ | refine blk_drew ?_ | refine blk_alloc ?_ _)); refine blk_put (cs := #[.int .i64 7, .bool false, .bool false, .slice none 0 0, .int .i64 0, .string (⟨#[]⟩ : ByteArray), .slice none 0 0, .slice none 0 0]) ?_ 4 _ rfl; (with_reducible repeat (first | refine blk_drewN ?_ _ | refine blk_drew ?_ | refine blk_alloc ?_ _)); refine blk_put (cs := #[.int .i64 7, .bool false, .bool false, .slice none 0 0, .int .i64 0, .string (⟨#[]⟩ : ByteArray), .slice none 0 0, .slice none 0 0]) ?_ 3 _ rfl; (with_reducible repeat (first | refine blk_drewN ?_ _ | refine blk_drew ?_ | refine blk_alloc ?_ _)); refine blk_put (cs := #[.int .i64 7, .bool false, .bool false, .slice none 0 0, .int .i64 0, .string (⟨#[]⟩ : ByteArray), .slice none 0 0, .slice none 0 0]) ?_ 2 _ rfl; (with_reducible repeat (first | refine blk_drewN ?_ _ | refine blk_drew ?_ | refine blk_alloc ?_ _)); refine blk_put (cs := #[.int .i64 7, .bool false, .bool false, .slice none 0 0, .int .i64 0, .string (⟨#[]⟩ : ByteArray), .slice none 0 0, .slice none 0 0]) ?_ 1 _ rfl; (with_reducible repeat (first | refine blk_drewN ?_ _ | refine blk_drew ?_ | refine blk_alloc ?_ _)); refine blk_put (cs := #[.int .i64 0, .bool false, .bool false, .slice none 0 0, .int .i64 0, .string (⟨#[]⟩ : ByteArray), .slice none 0 0, .slice none 0 0]) ?_ 0 _ rfl; (with_reducible repeat (first | refine blk_drewN ?_ _ | refine blk_drew ?_ | refine blk_alloc ?_ _)); exact BK399.out))⟩; have n3_ : Aside0 (Below w.heap.size w w19) := ⟨(by rw [hw]; exact (by repeat (first | (with_reducible first | exact HB.out | apply below_alloc | apply pw_below_drewN | apply below_drew1 | refine below_set ?_ GE392.out | refine below_set ?_ GE399.out) | exact HB.out)))⟩; clear hw; clear HO1; clear BK392; clear BK399; clear HB; have HO1 := n0_; have BK392 := n1_; have BK399 := n2_; have HB := n3_; clear n0_ n1_ n2_ n3_; have q20 : ((ji3) : Int) ≤ ((l0.length : Int) : Int) := of_decide_eq_true (by first | (with_reducible assumption) | assumption); obtain ⟨i020, hi020, _, hsz20, _⟩ := info_parts info9; have hroom20 : l0.length ≤ c0 := HC0.out; have hC20 : Kd.C Kd.string _ A0 l0.length l0 := HR0.out; have hcut20 := cut_to (P := Try.prog) 35 9 .i64 Try.underlying35 hi020 A0 l0.length c0 (ji3) (of_decide_eq_true (by first | (with_reducible assumption) | assumption)) q20 hroom20; have hr20 := Kd.C_take (m := ((ji3) : Int).toNat) hC20 (by omega); have hy20 : y393.length = ((ji3) : Int).toNat := (by rw [Ny400.out, List.length_take]; omega); rw [← Ny400.out] at hr20; rw [← hy20] at hcut20; have HR403 := Aside0.mk hr20; have HC403 := Aside0.mk (show y393.length ≤ c0 from by omega); clear hr20 hC20 hroom20 hi020 hsz20; have KY20 := Aside0.mk hy20; clear hy20; replace q20 := eq_true q20) | ((with_reducible refine gate_callee (f := 28) rfl ?_); refine goesL_ (some 32) rfl rfl Try.func28 (by kernel_rfl) rfl #[.slice A0 y393.length c0] rfl (by (try simp only [List.map_toArray, List.map_cons, List.map_nil]); first | done | rfl | (simp only [List.length_drop, List.length_take]; rfl)) ?_; (with_reducible refine (erratumref06_Sort.calls k _ _ y393 t404 _ ?side1 ?side2 A13.out).mono ?_); (case side1 => repeat (first | exact (Kd.C_below HR403.out HB.out) | (with_reducible refine Kd.C_alloc ?_ _) | (with_reducible refine Kd.C_drewN ?_ _) | (with_reducible refine Kd.C_drew ?_))); (case side2 => exact HC403.out); rintro e w21 ⟨v405, rfl, ho0, hb⟩; refine ⟨_, rfl, ?_⟩; have n0_ := Aside0.mk (Kd.V_elder' (by (with_reducible repeat (first | apply Kd.V_alloc | apply Kd.V_drewN | apply Kd.V_drew)); exact HO1.out) (Kd.R_base ho0) hb); have n1_ := Aside0.mk (Kd.R_lower (Kd.R_newM (M := fun k_ => (w.heap.size ≤ k_)) ho0 (below_size (by repeat (first | (with_reducible first | exact HB.out | apply below_alloc | apply pw_below_drewN | apply below_drew1 | refine below_set ?_ GE392.out | refine below_set ?_ GE399.out) | exact HB.out))) (fun k_ h_ => h_)) (below_size (by repeat (first | (with_reducible first | exact HB.out | apply below_alloc | apply pw_below_drewN | apply below_drew1 | refine below_set ?_ GE392.out | refine below_set ?_ GE399.out) | exact HB.out)))); have n2_ := Aside0.mk (blk_below (g := gb392) (o := .cells #[.int .i64 0, .bool false, .bool false, .slice none 0 0, .int .i64 0, .string (⟨#[]⟩ : ByteArray), .slice none 0 0, .slice none 0 0] 50 (0, 0)) (by (with_reducible repeat (first | refine blk_drewN ?_ _ | refine blk_drew ?_ | refine blk_alloc ?_ _)); exact BK392.out) hb); have n3_ := Aside0.mk (blk_below (g := gb399) (o := .cells #[.int .i64 7, .bool false, .bool false, .slice none 0 0, .int .i64 0, .string (⟨#[]⟩ : ByteArray), .slice none 0 0, .slice none 0 0] 50 (0, 0)) (by (with_reducible repeat (first | refine blk_drewN ?_ _ | refine blk_drew ?_ | refine blk_alloc ?_ _)); exact BK399.out) hb); have n4_ := Aside0.mk (below_step (by repeat (first | (with_reducible first | exact HB.out | apply below_alloc | apply pw_below_drewN | apply below_drew1 | refine below_set ?_ GE392.out | refine below_set ?_ GE399.out) | exact HB.out)) hb); clear HO1; clear BK392; clear BK399; clear HB; have HO1 := n0_; have HO406 := n1_; have BK392 := n2_; have BK399 := n3_; have HB := n4_; clear n0_ n1_ n2_ n3_ n4_; (try clear hb); (try clear hb2); (try clear hk); (try clear hi); (try clear ho0)))
 go_loopg [12] k (fun kq v12 w' => ∃ (x12_1 : Int) (x400006_1 : List ByteArray) (x400007_1 : List (S50)) (u400006 : Value) (u400007 : Value), v12 = .int .i64 x12_1 ∧ Aside0 (erratumref06_Object.l0 kq l0 l1 t404 x12_1 7 false false 0 (⟨#[]⟩ : ByteArray) x400006_1 x400007_1 = some (r1, r2, r3, r4, r5, r6, r7, r8, r9, r10)) ∧ Aside0 (kq ≤ k) ∧ Aside0 (Kd.V k50 50 w' w.heap.size (fun k_ => (P1_ k_ ∨ w.heap.size ≤ k_) ∧ some k_ ≠ (v405 : Value).ownBlock ∧ some k_ ≠ (u400006 : Value).ownBlock ∧ some k_ ≠ (u400007 : Value).ownBlock ∧ k_ ≠ gb392 ∧ k_ ≠ gb399) (.slice A1 l1.length c1) l1) ∧ Aside0 (Kd.R (Kd.int .i64) 3 w' w.heap.size (fun k_ => (w.heap.size ≤ k_)) v405 t404) ∧ Aside0 (Kd.R Kd.string 9 w' w.heap.size (fun k_ => (w.heap.size ≤ k_)) u400006 x400006_1) ∧ Aside0 (Kd.N k50 50 w' w.heap.size (fun k_ => (P1_ k_ ∨ w.heap.size ≤ k_) ∧ some k_ ≠ (v405 : Value).ownBlock ∧ some k_ ≠ (u400006 : Value).ownBlock ∧ k_ ≠ gb392 ∧ k_ ≠ gb399) u400007 x400007_1) ∧ Aside0 (w'.heap[gb392]? = some (.cells #[.int .i64 0, .bool false, .bool false, (.slice none 0 0), .int .i64 0, .string (⟨#[]⟩ : ByteArray), (.slice none 0 0), (.slice none 0 0)] 50 (0, 0))) ∧ Aside0 (w'.heap[gb399]? = some (.cells #[.int .i64 7, .bool false, .bool false, (.slice none 0 0), .int .i64 0, .string (⟨#[]⟩ : ByteArray), u400006, u400007] 50 (0, 0))) ∧ Aside0 (Below w.heap.size w w'))
 case atStart => exact ⟨(0), (([] : List ByteArray)), (([] : List (S50))), (.slice none 0 0), (.slice none 0 0), (by first | rfl | (simp; done) | (simp [*]; done)), H', ⟨Nat.le_refl _⟩, ⟨by (with_reducible repeat (first | apply Kd.V_alloc | apply Kd.V_drewN | apply Kd.V_drew)); exact Kd.V_mono HO1.out (fun _ hk => ⟨hk.1.1, ⟨hk.2, ⟨(by simp [Value.ownBlock]), ⟨(by simp [Value.ownBlock]), ⟨hk.1.2.1, hk.1.2.2⟩⟩⟩⟩⟩)⟩, ⟨by (with_reducible repeat (first | apply Kd.R_alloc | apply Kd.R_drewN | apply Kd.R_drew)); exact Kd.R_mono HO406.out (fun _ hk => hk.1)⟩, ⟨by first | exact Kd.R_nil _ _ _ _ _ | exact Kd.N_nil _ _ _ _ _ | exact Kd.V_nil _ _ _ _ _ | exact Kd.Q_nil _ _ _ _ _ | exact Kd.S_nil _ _ _ _ _⟩, ⟨by first | exact Kd.R_nil _ _ _ _ _ | exact Kd.N_nil _ _ _ _ _ | exact Kd.V_nil _ _ _ _ _ | exact Kd.Q_nil _ _ _ _ _ | exact Kd.S_nil _ _ _ _ _⟩, ⟨by (with_reducible repeat (first | refine blk_drewN ?_ _ | refine blk_drew ?_ | refine blk_alloc ?_ _)); exact BK392.out⟩, ⟨by (with_reducible repeat (first | refine blk_drewN ?_ _ | refine blk_drew ?_ | refine blk_alloc ?_ _)); exact BK399.out⟩, ⟨by repeat (first | (with_reducible first | exact HB.out | apply below_alloc | apply pw_below_drewN | apply below_drew1 | refine below_set ?_ GE392.out | refine below_set ?_ GE399.out) | exact HB.out)⟩⟩
 case round =>
  clear H'
  try clear c1
  try clear c4
  try clear c4b0
  try clear c4b1
  try clear c5
  try clear c5b0
  try clear c5b1
  try clear c7
  try clear q9
  try clear c11b0
  try clear c12b0
  try clear q15
  try clear q20
  try clear hcz10_0
  try clear hcz10_1
  try clear hcz10_2
  try clear hcz10_3
  try clear hcz10_4
  try clear hcz10_5
  try clear hcz10_6
  try clear hcz10_7
  try clear hcz18_0
  try clear hcz18_1
  try clear hcz18_2
  try clear hcz18_3
  try clear hcz18_4
  try clear hcz18_5
  try clear hcz18_6
  try clear hcz18_7
  try clear hfz10_0
  try clear hfz10_1
  try clear hfz10_2
  try clear hfz10_3
  try clear hfz10_4
  try clear hfz10_5
  try clear hfz10_6
  try clear hfz10_7
  try clear hfz18_0
  try clear hfz18_1
  try clear hfz18_2
  try clear hfz18_3
  try clear hfz18_4
  try clear hfz18_5
  try clear hfz18_6
  try clear hfz18_7
  try clear q15
  try clear q20
  try clear q9
  obtain ⟨x12_1, x400006_1, x400007_1, u400006, u400007, rfl, HA, HK1, HO_1, HO_11, HO_400006, HO_400007, BK392, BK399, HB⟩ := hrel
  cases gk with
  | zero => exact absurd HA.out (by simp [erratumref06_Object.l0])
  | succ k1 =>
   have H := HA.out
   clear HA
   simp only [erratumref06_Object.l0] at H
   by_cases c22 : x12_1 < (t404.length : Int)
   rotate_left
   ·rw [if_neg c22] at H
    have c22b0 : decide (x12_1 < (t404.length : Int)) = false := decide_eq_false c22
    clear c22
    simp only [Option.some.injEq, Prod.mk.injEq] at H
    obtain ⟨rfl, rfl, rfl, rfl, rfl, rfl, rfl, rfl, rfl, rfl⟩ := H
    obtain ⟨Ao46, co46, eo46⟩ := Kd.R_slice HO_11.out
    subst eo46
    have hnb47 := NB399_392.out
    have hnc47 := NB392_399.out
    have hcz48_0 : wr.cell? ⟨gb399, 0, none⟩ = some (.int .i64 7) := (blk_cell BK399.out 0).trans rfl
    have hcz48_1 : wr.cell? ⟨gb399, 1, none⟩ = some (.bool false) := (blk_cell BK399.out 1).trans rfl
    have hcz48_2 : wr.cell? ⟨gb399, 2, none⟩ = some (.bool false) := (blk_cell BK399.out 2).trans rfl
    have hcz48_3 : wr.cell? ⟨gb399, 3, none⟩ = some (.slice none 0 0) := (blk_cell BK399.out 3).trans rfl
    have hcz48_4 : wr.cell? ⟨gb399, 4, none⟩ = some (.int .i64 0) := (blk_cell BK399.out 4).trans rfl
    have hcz48_5 : wr.cell? ⟨gb399, 5, none⟩ = some (.string (⟨#[]⟩ : ByteArray)) := (blk_cell BK399.out 5).trans rfl
    have hcz48_6 : wr.cell? ⟨gb399, 6, none⟩ = some (u400006) := (blk_cell BK399.out 6).trans rfl
    have hcz48_7 : wr.cell? ⟨gb399, 7, none⟩ = some (u400007) := (blk_cell BK399.out 7).trans rfl
    have hfz48_0 := blk_frozen BK399.out 0
    have hfz48_1 := blk_frozen BK399.out 1
    have hfz48_2 := blk_frozen BK399.out 2
    have hfz48_3 := blk_frozen BK399.out 3
    have hfz48_4 := blk_frozen BK399.out 4
    have hfz48_5 := blk_frozen BK399.out 5
    have hfz48_6 := blk_frozen BK399.out 6
    have hfz48_7 := blk_frozen BK399.out 7
    have hcz49_0 : wr.cell? ⟨gb392, 0, none⟩ = some (.int .i64 0) := (blk_cell BK392.out 0).trans rfl
    have hcz49_1 : wr.cell? ⟨gb392, 1, none⟩ = some (.bool false) := (blk_cell BK392.out 1).trans rfl
    have hcz49_2 : wr.cell? ⟨gb392, 2, none⟩ = some (.bool false) := (blk_cell BK392.out 2).trans rfl
    have hcz49_3 : wr.cell? ⟨gb392, 3, none⟩ = some (.slice none 0 0) := (blk_cell BK392.out 3).trans rfl
    have hcz49_4 : wr.cell? ⟨gb392, 4, none⟩ = some (.int .i64 0) := (blk_cell BK392.out 4).trans rfl
    have hcz49_5 : wr.cell? ⟨gb392, 5, none⟩ = some (.string (⟨#[]⟩ : ByteArray)) := (blk_cell BK392.out 5).trans rfl
    have hcz49_6 : wr.cell? ⟨gb392, 6, none⟩ = some (.slice none 0 0) := (blk_cell BK392.out 6).trans rfl
    have hcz49_7 : wr.cell? ⟨gb392, 7, none⟩ = some (.slice none 0 0) := (blk_cell BK392.out 7).trans rfl
    have hfz49_0 := blk_frozen BK392.out 0
    have hfz49_1 := blk_frozen BK392.out 1
    have hfz49_2 := blk_frozen BK392.out 2
    have hfz49_3 := blk_frozen BK392.out 3
    have hfz49_4 := blk_frozen BK392.out 4
    have hfz49_5 := blk_frozen BK392.out 5
    have hfz49_6 := blk_frozen BK392.out 6
    have hfz49_7 := blk_frozen BK392.out 7
    obtain ⟨Ao50, co50, eo50⟩ := Kd.R_slice HO_400006.out
    subst eo50
    obtain ⟨Ao51, co51, eo51⟩ := Kd.N_slice HO_400007.out
    subst eo51
    go_wp2
    refine bodyPost_ret (results_ctt rfl _ _ gb392 50 #[.int .i64 7, .bool false, .bool false, .slice none 0 0, .int .i64 0, .string (⟨#[]⟩ : ByteArray), .slice Ao50 x400006_1.length co50, .slice Ao51 x400007_1.length co51] (0, 0) _ rfl (by (with_reducible repeat (first | refine blk_drewN ?_ _ | refine blk_drew ?_ | refine blk_alloc ?_ _)); refine blk_put (cs := #[.int .i64 7, .bool false, .bool false, .slice none 0 0, .int .i64 0, .string (⟨#[]⟩ : ByteArray), .slice Ao50 x400006_1.length co50, .slice none 0 0]) ?_ 7 _ rfl; (with_reducible repeat (first | refine blk_drewN ?_ _ | refine blk_drew ?_ | refine blk_alloc ?_ _)); refine blk_put (cs := #[.int .i64 7, .bool false, .bool false, .slice none 0 0, .int .i64 0, .string (⟨#[]⟩ : ByteArray), .slice none 0 0, .slice none 0 0]) ?_ 6 _ rfl; (with_reducible repeat (first | refine blk_drewN ?_ _ | refine blk_drew ?_ | refine blk_alloc ?_ _)); refine blk_put (cs := #[.int .i64 7, .bool false, .bool false, .slice none 0 0, .int .i64 0, .string (⟨#[]⟩ : ByteArray), .slice none 0 0, .slice none 0 0]) ?_ 5 _ rfl; (with_reducible repeat (first | refine blk_drewN ?_ _ | refine blk_drew ?_ | refine blk_alloc ?_ _)); refine blk_put (cs := #[.int .i64 7, .bool false, .bool false, .slice none 0 0, .int .i64 0, .string (⟨#[]⟩ : ByteArray), .slice none 0 0, .slice none 0 0]) ?_ 4 _ rfl; (with_reducible repeat (first | refine blk_drewN ?_ _ | refine blk_drew ?_ | refine blk_alloc ?_ _)); refine blk_put (cs := #[.int .i64 7, .bool false, .bool false, .slice none 0 0, .int .i64 0, .string (⟨#[]⟩ : ByteArray), .slice none 0 0, .slice none 0 0]) ?_ 3 _ rfl; (with_reducible repeat (first | refine blk_drewN ?_ _ | refine blk_drew ?_ | refine blk_alloc ?_ _)); refine blk_put (cs := #[.int .i64 7, .bool false, .bool false, .slice none 0 0, .int .i64 0, .string (⟨#[]⟩ : ByteArray), .slice none 0 0, .slice none 0 0]) ?_ 2 _ rfl; (with_reducible repeat (first | refine blk_drewN ?_ _ | refine blk_drew ?_ | refine blk_alloc ?_ _)); refine blk_put (cs := #[.int .i64 7, .bool false, .bool false, .slice none 0 0, .int .i64 0, .string (⟨#[]⟩ : ByteArray), .slice none 0 0, .slice none 0 0]) ?_ 1 _ rfl; (with_reducible repeat (first | refine blk_drewN ?_ _ | refine blk_drew ?_ | refine blk_alloc ?_ _)); refine blk_put (cs := #[.int .i64 0, .bool false, .bool false, .slice none 0 0, .int .i64 0, .string (⟨#[]⟩ : ByteArray), .slice none 0 0, .slice none 0 0]) ?_ 0 _ rfl; (with_reducible repeat (first | refine blk_drewN ?_ _ | refine blk_drew ?_ | refine blk_alloc ?_ _)); exact BK392.out) Try.underlying50 rfl (by kernel_rfl)) rfl ?_
    exact ⟨_, _, _, by first | rfl | (simp [errW_none, errW_some] <;> rfl) | (simp only [← hji3]; first | rfl | (simp [errW_none, errW_some] <;> rfl)) | (simp [*, errW_none, errW_some] <;> rfl), by first | exact Kd.R_nil _ _ _ _ _ | exact Kd.N_nil _ _ _ _ _ | exact Kd.V_nil _ _ _ _ _ | exact Kd.Q_nil _ _ _ _ _ | exact Kd.S_nil _ _ _ _ _, by (with_reducible repeat (first | apply Kd.R_alloc | apply Kd.R_drewN | apply Kd.R_drew)); exact Kd.R_mono (Kd.R_far (p := ⟨gb392, 7, none⟩) (Kd.R_far (p := ⟨gb392, 6, none⟩) (Kd.R_far (p := ⟨gb392, 5, none⟩) (Kd.R_far (p := ⟨gb392, 4, none⟩) (Kd.R_far (p := ⟨gb392, 3, none⟩) (Kd.R_far (p := ⟨gb392, 2, none⟩) (Kd.R_far (p := ⟨gb392, 1, none⟩) (Kd.R_far (p := ⟨gb392, 0, none⟩) (Kd.R_types HO_400006.out BK392.out (by decide)) (fun _ hk => hk.2) (.int .i64 7)) (fun _ hk => hk.2) (.bool false)) (fun _ hk => hk.2) (.bool false)) (fun _ hk => hk.2) (.slice none 0 0)) (fun _ hk => hk.2) (.int .i64 0)) (fun _ hk => hk.2) (.string (⟨#[]⟩ : ByteArray))) (fun _ hk => hk.2) (.slice Ao50 x400006_1.length co50)) (fun _ hk => hk.2) (.slice Ao51 x400007_1.length co51)) (fun _ hk => hk.1), by (with_reducible repeat (first | apply Kd.N_alloc | apply Kd.N_drewN | apply Kd.N_drew)); exact Kd.N_mono (Kd.N_far (p := ⟨gb392, 7, none⟩) (Kd.N_far (p := ⟨gb392, 6, none⟩) (Kd.N_far (p := ⟨gb392, 5, none⟩) (Kd.N_far (p := ⟨gb392, 4, none⟩) (Kd.N_far (p := ⟨gb392, 3, none⟩) (Kd.N_far (p := ⟨gb392, 2, none⟩) (Kd.N_far (p := ⟨gb392, 1, none⟩) (Kd.N_far (p := ⟨gb392, 0, none⟩) (Kd.N_mono HO_400007.out (fun k_ hk => (⟨hk, hk.2.2.2.1⟩ : _ ∧ k_ ≠ gb392))) (fun _ hk => hk.2) (.int .i64 7)) (fun _ hk => hk.2) (.bool false)) (fun _ hk => hk.2) (.bool false)) (fun _ hk => hk.2) (.slice none 0 0)) (fun _ hk => hk.2) (.int .i64 0)) (fun _ hk => hk.2) (.string (⟨#[]⟩ : ByteArray))) (fun _ hk => hk.2) (.slice Ao50 x400006_1.length co50)) (fun _ hk => hk.2) (.slice Ao51 x400007_1.length co51)) (fun _ hk => ⟨hk.1.1, ⟨(by simp [Value.ownBlock]), hk.1.2.2.1⟩⟩), by repeat (first | (with_reducible first | exact HB.out | apply below_alloc | apply pw_below_drewN | apply below_drew1 | refine below_set ?_ GE392.out | refine below_set ?_ GE399.out) | exact HB.out)⟩
   rw [if_pos c22] at H
   have c22b0 : decide (x12_1 < (t404.length : Int)) = true := decide_eq_true c22
   clear c22
   by_cases c23 : 0 ≤ x12_1
   rotate_left
   ·rw [if_neg c23] at H
    exact absurd H (by simp)
   rw [if_pos c23] at H
   have c23b0 : decide (0 ≤ x12_1) = true := decide_eq_true c23
   clear c23
   by_cases c24 : 0 ≤ (rd t404 x12_1)
   rotate_left
   ·rw [if_neg c24] at H
    exact absurd H (by simp)
   rw [if_pos c24] at H
   have c24b0 : decide (0 ≤ (rd t404 x12_1)) = true := decide_eq_true c24
   clear c24
   by_cases c25 : (rd t404 x12_1) < (l0.length : Int)
   rotate_left
   ·rw [if_neg c25] at H
    exact absurd H (by simp)
   rw [if_pos c25] at H
   have c25b0 : decide ((rd t404 x12_1) < (l0.length : Int)) = true := decide_eq_true c25
   clear c25
   obtain ⟨y409, hy409⟩ : ∃ y_ : List ByteArray, y_ = (([rdOf ByteArray.empty l0 (rd t404 x12_1)] : List ByteArray)) := ⟨_, rfl⟩
   replace H : (if x400006_1.length + y409.length < 8796093022208 then (if (rd t404 x12_1) < (l1.length : Int) then ((some (([(⟨(rd_T50 l1 (rd t404 x12_1)).f0, (rd_T50 l1 (rd t404 x12_1)).f1, (⟨(rd_T50 l1 (rd t404 x12_1)).f2.f0, (rd_T50 l1 (rd t404 x12_1)).f2.f1, (rd_T50 l1 (rd t404 x12_1)).f2.f2⟩ : S48), (rd_T50 l1 (rd t404 x12_1)).f3, (rd_T50 l1 (rd t404 x12_1)).f4, (rd_T50 l1 (rd t404 x12_1)).f5⟩ : S50)] : List (S50)) : List (S50))).bind fun y417 => (if x400007_1.length + y417.length < 1172812402961 then (erratumref06_Object.l0 k1 l0 l1 t404 (wrap64 (x12_1 + 1)) 7 false false 0 (⟨#[]⟩ : ByteArray) (x400006_1 ++ y409) (x400007_1 ++ y417)) else (none))) else (none)) else (none)) = some (r1, r2, r3, r4, r5, r6, r7, r8, r9, r10) := by first | (rw [hy409]; with_reducible exact H) | (have H2_ := (Option.bind_some _ _).symm.trans H; rw [hy409]; with_reducible exact H2_) | (have H2_ := (Option.bind_some _ _).symm.trans H; with_reducible exact H2_) | with_reducible exact H | (rw [hy409]; exact H) | exact H
   have Ny409 := Aside0.mk hy409
   clear hy409
   by_cases c26 : x400006_1.length + y409.length < 8796093022208
   rotate_left
   ·rw [if_neg c26] at H
    exact absurd H (by simp)
   rw [if_pos c26] at H
   have LMc26 := Aside0.mk c26
   clear c26
   obtain ⟨y412, hy412⟩ : ∃ y_ : List ByteArray, y_ = (x400006_1 ++ y409) := ⟨_, rfl⟩
   replace H : (if (rd t404 x12_1) < (l1.length : Int) then ((some (([(⟨(rd_T50 l1 (rd t404 x12_1)).f0, (rd_T50 l1 (rd t404 x12_1)).f1, (⟨(rd_T50 l1 (rd t404 x12_1)).f2.f0, (rd_T50 l1 (rd t404 x12_1)).f2.f1, (rd_T50 l1 (rd t404 x12_1)).f2.f2⟩ : S48), (rd_T50 l1 (rd t404 x12_1)).f3, (rd_T50 l1 (rd t404 x12_1)).f4, (rd_T50 l1 (rd t404 x12_1)).f5⟩ : S50)] : List (S50)) : List (S50))).bind fun y417 => (if x400007_1.length + y417.length < 1172812402961 then (erratumref06_Object.l0 k1 l0 l1 t404 (wrap64 (x12_1 + 1)) 7 false false 0 (⟨#[]⟩ : ByteArray) y412 (x400007_1 ++ y417)) else (none))) else (none)) = some (r1, r2, r3, r4, r5, r6, r7, r8, r9, r10) := by first | (rw [hy412]; with_reducible exact H) | (have H2_ := (Option.bind_some _ _).symm.trans H; rw [hy412]; with_reducible exact H2_) | (have H2_ := (Option.bind_some _ _).symm.trans H; with_reducible exact H2_) | with_reducible exact H | (rw [hy412]; exact H) | exact H
   have Ny412 := Aside0.mk hy412
   clear hy412
   by_cases c27 : (rd t404 x12_1) < (l1.length : Int)
   rotate_left
   ·rw [if_neg c27] at H
    exact absurd H (by simp)
   rw [if_pos c27] at H
   have c27b0 : decide ((rd t404 x12_1) < (l1.length : Int)) = true := decide_eq_true c27
   clear c27
   obtain ⟨y417, hy417⟩ : ∃ y_ : List (S50), y_ = (([(⟨(rd_T50 l1 (rd t404 x12_1)).f0, (rd_T50 l1 (rd t404 x12_1)).f1, (⟨(rd_T50 l1 (rd t404 x12_1)).f2.f0, (rd_T50 l1 (rd t404 x12_1)).f2.f1, (rd_T50 l1 (rd t404 x12_1)).f2.f2⟩ : S48), (rd_T50 l1 (rd t404 x12_1)).f3, (rd_T50 l1 (rd t404 x12_1)).f4, (rd_T50 l1 (rd t404 x12_1)).f5⟩ : S50)] : List (S50))) := ⟨_, rfl⟩
   replace H : (if x400007_1.length + y417.length < 1172812402961 then (erratumref06_Object.l0 k1 l0 l1 t404 (wrap64 (x12_1 + 1)) 7 false false 0 (⟨#[]⟩ : ByteArray) y412 (x400007_1 ++ y417)) else (none)) = some (r1, r2, r3, r4, r5, r6, r7, r8, r9, r10) := by first | (rw [hy417]; with_reducible exact H) | (have H2_ := (Option.bind_some _ _).symm.trans H; rw [hy417]; with_reducible exact H2_) | (have H2_ := (Option.bind_some _ _).symm.trans H; with_reducible exact H2_) | with_reducible exact H | (rw [hy417]; exact H) | exact H
   have Ny417 := Aside0.mk hy417
   clear hy417
   by_cases c28 : x400007_1.length + y417.length < 1172812402961
   rotate_left
   ·rw [if_neg c28] at H
    exact absurd H (by simp)
   rw [if_pos c28] at H
   have LMc28 := Aside0.mk c28
   clear c28
   obtain ⟨y420, hy420⟩ : ∃ y_ : List (S50), y_ = (x400007_1 ++ y417) := ⟨_, rfl⟩
   replace H : (erratumref06_Object.l0 k1 l0 l1 t404 (wrap64 (x12_1 + 1)) 7 false false 0 (⟨#[]⟩ : ByteArray) y412 y420) = some (r1, r2, r3, r4, r5, r6, r7, r8, r9, r10) := by first | (rw [hy420]; with_reducible exact H) | (have H2_ := (Option.bind_some _ _).symm.trans H; rw [hy420]; with_reducible exact H2_) | (have H2_ := (Option.bind_some _ _).symm.trans H; with_reducible exact H2_) | with_reducible exact H | (rw [hy420]; exact H) | exact H
   have Ny420 := Aside0.mk hy420
   clear hy420
   have H' := Aside0.mk H
   clear H
   obtain ⟨Ao29, co29, eo29⟩ := Kd.R_slice HO_11.out
   subst eo29
   obtain ⟨Ao30, co30, eo30⟩ := Kd.R_slice HO_400006.out
   subst eo30
   obtain ⟨Ao31, co31, eo31⟩ := Kd.N_slice HO_400007.out
   subst eo31
   try go_wp2
   have n0_ := Aside0.mk (Kd.V_drew HO_1.out)
   have n1_ := Aside0.mk (Kd.R_drew HO_11.out)
   have n2_ := Aside0.mk (Kd.R_drew HO_400006.out)
   have n3_ := Aside0.mk (Kd.N_drew HO_400007.out)
   have n4_ := Aside0.mk (blk_drew BK392.out)
   have n5_ := Aside0.mk (blk_drew BK399.out)
   have n6_ := Aside0.mk (below_drew1 HB.out)
   clear HO_1
   clear HO_11
   clear HO_400006
   clear HO_400007
   clear BK392
   clear BK399
   clear HB
   have HO_1 := n0_
   have HO_11 := n1_
   have HO_400006 := n2_
   have HO_400007 := n3_
   have BK392 := n4_
   have BK399 := n5_
   have HB := n6_
   clear n0_ n1_ n2_ n3_ n4_ n5_ n6_
   have p407 : 0 ≤ (x12_1 : Int) := of_decide_eq_true (by first | (with_reducible assumption) | assumption)
   have q407 : x12_1 < (t404.length : Int) := of_decide_eq_true (by first | (with_reducible assumption) | assumption)
   obtain ⟨ad407, e407, hx407_0⟩ := Kd.at_int (Kd.R_reads' HO_11.out).2.2 x12_1 p407 q407
   cases e407
   replace p407 := eq_true p407
   replace q407 := eq_true q407
   have p408 : 0 ≤ ((rd t404 x12_1) : Int) := of_decide_eq_true (by first | (with_reducible assumption) | assumption)
   have q408 : (rd t404 x12_1) < (l0.length : Int) := of_decide_eq_true (by first | (with_reducible assumption) | assumption)
   obtain ⟨ad408, e408, hx408_0⟩ := Kd.at_string HR0.out (rd t404 x12_1) p408 q408
   have hw408_0 := hx408_0
   cases e408
   replace hx408_0 := (HB.out.cell (World.block_lt_of_cell? w _ hx408_0)).trans hx408_0
   replace p408 := eq_true p408
   replace q408 := eq_true q408
   have p415 : 0 ≤ (x12_1 : Int) := of_decide_eq_true (by first | (with_reducible assumption) | assumption)
   have q415 : x12_1 < (t404.length : Int) := of_decide_eq_true (by first | (with_reducible assumption) | assumption)
   obtain ⟨ad415, e415, hx415_0⟩ := Kd.at_int (Kd.R_reads' HO_11.out).2.2 x12_1 p415 q415
   obtain rfl : ad407 = ad415 := (by injection e415)
   replace p415 := eq_true p415
   replace q415 := eq_true q415
   have p416 : 0 ≤ ((rd t404 x12_1) : Int) := of_decide_eq_true (by first | (with_reducible assumption) | assumption)
   have q416 : (rd t404 x12_1) < (l1.length : Int) := of_decide_eq_true (by first | (with_reducible assumption) | assumption)
   obtain ⟨ad416, A416_3, c416_3, A416_6, c416_6, A416_7, c416_7, e416, hx416_0, hx416_1, hx416_2, hx416_3, hx416_4, hx416_5, hx416_6, hx416_7, hl416_3, hi416_3, hl416_6, hi416_6, hl416_7, hi416_7⟩ := at_T50 (Kd.V_reads' HO_1.out).2.2 (rd t404 x12_1) p416 q416
   cases e416
   obtain ⟨ce416, hce416, hMe416, hcc416⟩ := Kd.V_get HO_1.out z50 (rd t404 x12_1) p416 (by first | exact q416 | exact of_decide_eq_true (by first | (with_reducible assumption) | assumption) | (have e_ := (Kd.V_reads' HO_1.out).1; omega))
   obtain ⟨ua416_3, uc416_3, ua416_6, uc416_6, ua416_7, uc416_7, rfl, ul416_3, ge416_3, ul416_6, ge416_6, ul416_7, ge416_7⟩ := k50_openF hMe416
   have hv416_3 := hcc416 3 _ rfl
   rw [add_field _ _ 3 (by omega)] at hv416_3
   replace hv416_3 := Option.some.inj (hv416_3.symm.trans hx416_3)
   injection hv416_3 with hva_ hvn_ hvc_
   rw [hva_] at ge416_3
   rw [hvc_] at ul416_3
   have HL416_3 := Aside0.mk (show Kd.V (Kd.int .u32) 78 _ w.heap.size _ _ ((rd_T50 l1 (rd t404 x12_1)).f2.f1) from Kd.V_mk ul416_3 ge416_3)
   clear hva_ hvn_ hvc_ ge416_3 ul416_3
   have hv416_6 := hcc416 6 _ rfl
   rw [add_field _ _ 6 (by omega)] at hv416_6
   replace hv416_6 := Option.some.inj (hv416_6.symm.trans hx416_6)
   injection hv416_6 with hva_ hvn_ hvc_
   rw [hva_] at ge416_6
   rw [hvc_] at ul416_6
   have HL416_6 := Aside0.mk (show Kd.V Kd.string 9 _ w.heap.size _ _ ((rd_T50 l1 (rd t404 x12_1)).f4) from Kd.V_mk ul416_6 ge416_6)
   clear hva_ hvn_ hvc_ ge416_6 ul416_6
   have hv416_7 := hcc416 7 _ rfl
   rw [add_field _ _ 7 (by omega)] at hv416_7
   replace hv416_7 := Option.some.inj (hv416_7.symm.trans hx416_7)
   injection hv416_7 with hva_ hvn_ hvc_
   rw [hva_] at ge416_7
   rw [hvc_] at ul416_7
   have HL416_7 := Aside0.mk (show Kd.V k50 50 _ w.heap.size _ _ ((rd_T50 l1 (rd t404 x12_1)).f5) from Kd.V_mk ul416_7 ge416_7)
   clear hva_ hvn_ hvc_ ge416_7 ul416_7
   clear hcc416 hce416
   have HR416_3 := Aside0.mk hi416_3
   have HC416_3 := Aside0.mk hl416_3
   clear hi416_3 hl416_3
   have HR416_6 := Aside0.mk hi416_6
   have HC416_6 := Aside0.mk hl416_6
   clear hi416_6 hl416_6
   have HR416_7 := Aside0.mk hi416_7
   have HC416_7 := Aside0.mk hl416_7
   clear hi416_7 hl416_7
   replace p416 := eq_true p416
   replace q416 := eq_true q416
   refine start_ (n := 26) (S := fun w' => w'.cell? ⟨gb399, 0, none⟩ = some (.int .i64 7) ∧ w'.cell? ⟨gb399, 1, none⟩ = some (.bool false) ∧ w'.cell? ⟨gb399, 2, none⟩ = some (.bool false) ∧ w'.cell? ⟨gb399, 3, none⟩ = some (.slice none 0 0) ∧ w'.cell? ⟨gb399, 4, none⟩ = some (.int .i64 0) ∧ w'.cell? ⟨gb399, 5, none⟩ = some (.string (⟨#[]⟩ : ByteArray)) ∧ w'.cell? ⟨gb399, 6, none⟩ = some (.slice Ao30 x400006_1.length co30) ∧ w'.cell? ⟨gb399, 7, none⟩ = some (.slice Ao31 x400007_1.length co31) ∧ w'.cell? (ad407.add (x12_1).toNat) = some (.int .i64 (rd t404 x12_1)) ∧ w'.cell? (ad408.add ((rd t404 x12_1)).toNat) = some (.string (rdOf ByteArray.empty l0 (rd t404 x12_1))) ∧ w'.cell? (ad407.add (x12_1).toNat) = some (.int .i64 (rd t404 x12_1)) ∧ w'.cell? (ad416.add (((rd t404 x12_1)).toNat * 8)) = some (.int .i64 ((rd_T50 l1 (rd t404 x12_1)).f0)) ∧ w'.cell? ⟨(ad416.add (((rd t404 x12_1)).toNat * 8)).block, (ad416.add (((rd t404 x12_1)).toNat * 8)).off + 1, none⟩ = some (.bool ((rd_T50 l1 (rd t404 x12_1)).f1)) ∧ w'.cell? ⟨(ad416.add (((rd t404 x12_1)).toNat * 8)).block, (ad416.add (((rd t404 x12_1)).toNat * 8)).off + 2, none⟩ = some (.bool ((rd_T50 l1 (rd t404 x12_1)).f2.f0)) ∧ w'.cell? ⟨(ad416.add (((rd t404 x12_1)).toNat * 8)).block, (ad416.add (((rd t404 x12_1)).toNat * 8)).off + 3, none⟩ = some (.slice A416_3 ((rd_T50 l1 (rd t404 x12_1)).f2.f1).length c416_3) ∧ w'.cell? ⟨(ad416.add (((rd t404 x12_1)).toNat * 8)).block, (ad416.add (((rd t404 x12_1)).toNat * 8)).off + 4, none⟩ = some (.int .i64 ((rd_T50 l1 (rd t404 x12_1)).f2.f2)) ∧ w'.cell? ⟨(ad416.add (((rd t404 x12_1)).toNat * 8)).block, (ad416.add (((rd t404 x12_1)).toNat * 8)).off + 5, none⟩ = some (.string ((rd_T50 l1 (rd t404 x12_1)).f3)) ∧ w'.cell? ⟨(ad416.add (((rd t404 x12_1)).toNat * 8)).block, (ad416.add (((rd t404 x12_1)).toNat * 8)).off + 6, none⟩ = some (.slice A416_6 ((rd_T50 l1 (rd t404 x12_1)).f4).length c416_6) ∧ w'.cell? ⟨(ad416.add (((rd t404 x12_1)).toNat * 8)).block, (ad416.add (((rd t404 x12_1)).toNat * 8)).off + 7, none⟩ = some (.slice A416_7 ((rd_T50 l1 (rd t404 x12_1)).f5).length c416_7)) (ds := [23, 25]) #[Z, Z, Z, Z, Z, Z, Z, Z, Z, Z, Z, Z, Z, Z, Z, Z, Z, Z, Z, Z, Z, Z, Z, Z, Z, Z] (by kernel_rfl) rfl rfl ⟨(blk_cell BK399.out 0).trans rfl, (blk_cell BK399.out 1).trans rfl, (blk_cell BK399.out 2).trans rfl, (blk_cell BK399.out 3).trans rfl, (blk_cell BK399.out 4).trans rfl, (blk_cell BK399.out 5).trans rfl, (blk_cell BK399.out 6).trans rfl, (blk_cell BK399.out 7).trans rfl, hx407_0, ((HB.out.cell (World.block_lt_of_cell? w _ hw408_0)).trans hw408_0), hx415_0, hx416_0, hx416_1, hx416_2, hx416_3, hx416_4, hx416_5, hx416_6, hx416_7⟩ (fun hHeld => ?_); refine with_tabW erratumref06_Object.tab10 erratumref06_Object.bits10 (fun HT_ HW_ => ?_)
   generalize wr.drew = w32 at HO_1 HO_11 HO_400006 HO_400007 BK392 BK399 HB HL416_3 HL416_6 HL416_7 HR416_3 HR416_6 HR416_7 hx407_0 hx408_0 hx415_0 hx416_0 hx416_1 hx416_2 hx416_3 hx416_4 hx416_5 hx416_6 hx416_7 hHeld ⊢
   refine pure_ (i := 0) (N := some 39) (v := ?_) (a' := ?_) #[Y, Z, Z, Z, Z, Z, Z, Z, Z, Z, Z, Z, Z, Z, Z, Z, Z, Z, Z, Z, Z, Z, Z, Z, Z, Z] rfl rfl (any_of HT_.out (by kernel_rfl)) (fun _ _ _ h => h) (Or.inl ⟨by rfl, ?_⟩) ?_ ?_
   rotate_left
   ·intro w'
    go_simp
    with_reducible rfl
   rotate_left
   ·simp only [Act.put, s0_, s1_, s2_, i64_w, i32_w]
    rfl
   refine pure_ (i := 2) (N := some 41) (v := ?_) (a' := ?_) #[Y, Z, Y, Z, Z, Z, Z, Z, Z, Z, Z, Z, Z, Z, Z, Z, Z, Z, Z, Z, Z, Z, Z, Z, Z, Z] rfl rfl (any_of HT_.out (by kernel_rfl)) (fun _ _ _ h => h) (Or.inl ⟨by rfl, ?_⟩) ?_ ?_
   rotate_left
   ·intro w'
    go_simp
    with_reducible rfl
   rotate_left
   ·simp only [Act.put, s0_, s1_, s2_, i64_w, i32_w]
    rfl
   refine pure_ (i := 3) (N := some 42) (v := ?_) (a' := ?_) #[Y, Z, Y, Y, Z, Z, Z, Z, Z, Z, Z, Z, Z, Z, Z, Z, Z, Z, Z, Z, Z, Z, Z, Z, Z, Z] rfl rfl (any_of HT_.out (by kernel_rfl)) (fun _ _ _ h => h) (Or.inl ⟨by rfl, ?_⟩) ?_ ?_
   rotate_left
   ·intro w'
    go_simp
    with_reducible rfl
   rotate_left
   ·simp only [Act.put, s0_, s1_, s2_, i64_w, i32_w]
    rfl
   refine pure_ (i := 4) (N := some 43) (v := ?_) (a' := ?_) #[Y, Z, Y, Y, Y, Z, Z, Z, Z, Z, Z, Z, Z, Z, Z, Z, Z, Z, Z, Z, Z, Z, Z, Z, Z, Z] rfl rfl (any_of HT_.out (by kernel_rfl)) (fun _ _ _ h => h) (Or.inl ⟨by rfl, ?_⟩) ?_ ?_
   rotate_left
   ·intro w'
    go_simp
    with_reducible rfl
   rotate_left
   ·simp only [Act.put, s0_, s1_, s2_, i64_w, i32_w]
    rfl
   refine pure_ (i := 5) (N := some 44) (v := ?_) (a' := ?_) #[Y, Z, Y, Y, Y, Y, Z, Z, Z, Z, Z, Z, Z, Z, Z, Z, Z, Z, Z, Z, Z, Z, Z, Z, Z, Z] rfl rfl (any_of HT_.out (by kernel_rfl)) (fun _ _ _ h => h) (Or.inl ⟨by rfl, ?_⟩) ?_ ?_
   rotate_left
   ·intro w'
    go_simp
    with_reducible rfl
   rotate_left
   ·simp only [Act.put, s0_, s1_, s2_, i64_w, i32_w]
    rfl
   refine pure_ (i := 11) (N := some 50) (v := ?_) (a' := ?_) #[Y, Z, Y, Y, Y, Y, Z, Z, Z, Z, Z, Y, Z, Z, Z, Z, Z, Z, Z, Z, Z, Z, Z, Z, Z, Z] rfl rfl (any_of HT_.out (by kernel_rfl)) (fun _ _ _ h => h) (Or.inl ⟨by rfl, ?_⟩) ?_ ?_
   rotate_left
   ·intro w'
    go_simp
    with_reducible rfl
   rotate_left
   ·simp only [Act.put, s0_, s1_, s2_, i64_w, i32_w]
    rfl
   refine pure_ (i := 13) (N := some 52) (v := ?_) (a' := ?_) #[Y, Z, Y, Y, Y, Y, Z, Z, Z, Z, Z, Y, Z, Y, Z, Z, Z, Z, Z, Z, Z, Z, Z, Z, Z, Z] rfl rfl (any_of HT_.out (by kernel_rfl)) (fun _ _ _ h => h) (Or.inl ⟨by rfl, ?_⟩) ?_ ?_
   rotate_left
   ·intro w'
    go_simp
    with_reducible rfl
   rotate_left
   ·simp only [Act.put, s0_, s1_, s2_, i64_w, i32_w]
    rfl
   refine pure_ (i := 14) (N := some 53) (v := ?_) (a' := ?_) #[Y, Z, Y, Y, Y, Y, Z, Z, Z, Z, Z, Y, Z, Y, Y, Z, Z, Z, Z, Z, Z, Z, Z, Z, Z, Z] rfl rfl (any_of HT_.out (by kernel_rfl)) (fun _ _ _ h => h) (Or.inl ⟨by rfl, ?_⟩) ?_ ?_
   rotate_left
   ·intro w'
    go_simp
    with_reducible rfl
   rotate_left
   ·simp only [Act.put, s0_, s1_, s2_, i64_w, i32_w]
    rfl
   refine pure_ (i := 15) (N := some 54) (v := ?_) (a' := ?_) #[Y, Z, Y, Y, Y, Y, Z, Z, Z, Z, Z, Y, Z, Y, Y, Y, Z, Z, Z, Z, Z, Z, Z, Z, Z, Z] rfl rfl (any_of HT_.out (by kernel_rfl)) (fun _ _ _ h => h) (Or.inl ⟨by rfl, ?_⟩) ?_ ?_
   rotate_left
   ·intro w'
    go_simp
    with_reducible rfl
   rotate_left
   ·simp only [Act.put, s0_, s1_, s2_, i64_w, i32_w]
    rfl
   refine pure_ (i := 16) (N := some 55) (v := ?_) (a' := ?_) #[Y, Z, Y, Y, Y, Y, Z, Z, Z, Z, Z, Y, Z, Y, Y, Y, Y, Z, Z, Z, Z, Z, Z, Z, Z, Z] rfl rfl (any_of HT_.out (by kernel_rfl)) (fun _ _ _ h => h) (Or.inl ⟨by rfl, ?_⟩) ?_ ?_
   rotate_left
   ·intro w'
    go_simp
    with_reducible rfl
   rotate_left
   ·simp only [Act.put, s0_, s1_, s2_, i64_w, i32_w]
    rfl
   refine take_ (i := 1) (N := some 40) (v := ?_) (a' := ?_) #[Y, Y, Y, Y, Y, Y, Z, Z, Z, Z, Z, Y, Z, Y, Y, Y, Y, Z, Z, Z, Z, Z, Z, Z, Z, Z] rfl rfl (take_ofW HT_.out HW_.out (by kernel_rfl)) (fun _ _ _ h => h) (Or.inl ⟨by rfl, ?_⟩) hHeld ?_ ?_
   rotate_left
   ·rintro w' ⟨s0, s1, s2, s3, s4, s5, s6, s7, s8, s9, s10, s11, s12, s13, s14, s15, s16, s17, s18⟩
    go_simp
    with_reducible rfl
   rotate_left
   ·simp only [Act.put, s0_, s1_, s2_, i64_w, i32_w]
    rfl
   refine take_ (i := 6) (N := some 45) (v := ?_) (a' := ?_) #[Y, Y, Y, Y, Y, Y, Y, Z, Z, Z, Z, Y, Z, Y, Y, Y, Y, Z, Z, Z, Z, Z, Z, Z, Z, Z] rfl rfl (take_ofW HT_.out HW_.out (by kernel_rfl)) (fun _ _ _ h => h) (Or.inl ⟨by rfl, ?_⟩) hHeld ?_ ?_
   rotate_left
   ·rintro w' ⟨s0, s1, s2, s3, s4, s5, s6, s7, s8, s9, s10, s11, s12, s13, s14, s15, s16, s17, s18⟩
    go_simp
    with_reducible rfl
   rotate_left
   ·simp only [Act.put, s0_, s1_, s2_, i64_w, i32_w]
    rfl
   refine pure_ (i := 7) (N := some 46) (v := ?_) (a' := ?_) #[Y, Y, Y, Y, Y, Y, Y, Y, Z, Z, Z, Y, Z, Y, Y, Y, Y, Z, Z, Z, Z, Z, Z, Z, Z, Z] rfl rfl (any_of HT_.out (by kernel_rfl)) (fun _ _ _ h => h) (Or.inl ⟨by rfl, ?_⟩) ?_ ?_
   rotate_left
   ·intro w'
    go_simp
    with_reducible rfl
   rotate_left
   ·simp only [Act.put, s0_, s1_, s2_, i64_w, i32_w]
    rfl
   refine take_ (i := 8) (N := some 47) (v := ?_) (a' := ?_) #[Y, Y, Y, Y, Y, Y, Y, Y, Y, Z, Z, Y, Z, Y, Y, Y, Y, Z, Z, Z, Z, Z, Z, Z, Z, Z] rfl rfl (take_ofW HT_.out HW_.out (by kernel_rfl)) (fun _ _ _ h => h) (Or.inl ⟨by rfl, ?_⟩) hHeld ?_ ?_
   rotate_left
   ·rintro w' ⟨s0, s1, s2, s3, s4, s5, s6, s7, s8, s9, s10, s11, s12, s13, s14, s15, s16, s17, s18⟩
    go_simp
    with_reducible rfl
   rotate_left
   ·simp only [Act.put, s0_, s1_, s2_, i64_w, i32_w]
    rfl
   refine take_ (i := 12) (N := some 51) (v := ?_) (a' := ?_) #[Y, Y, Y, Y, Y, Y, Y, Y, Y, Z, Z, Y, Y, Y, Y, Y, Y, Z, Z, Z, Z, Z, Z, Z, Z, Z] rfl rfl (take_ofW HT_.out HW_.out (by kernel_rfl)) (fun _ _ _ h => h) (Or.inl ⟨by rfl, ?_⟩) hHeld ?_ ?_
   rotate_left
   ·rintro w' ⟨s0, s1, s2, s3, s4, s5, s6, s7, s8, s9, s10, s11, s12, s13, s14, s15, s16, s17, s18⟩
    go_simp
    with_reducible rfl
   rotate_left
   ·simp only [Act.put, s0_, s1_, s2_, i64_w, i32_w]
    rfl
   refine take_ (i := 17) (N := some 56) (v := ?_) (a' := ?_) #[Y, Y, Y, Y, Y, Y, Y, Y, Y, Z, Z, Y, Y, Y, Y, Y, Y, Y, Z, Z, Z, Z, Z, Z, Z, Z] rfl rfl (take_ofW HT_.out HW_.out (by kernel_rfl)) (fun _ _ _ h => h) (Or.inl ⟨by rfl, ?_⟩) hHeld ?_ ?_
   rotate_left
   ·rintro w' ⟨s0, s1, s2, s3, s4, s5, s6, s7, s8, s9, s10, s11, s12, s13, s14, s15, s16, s17, s18⟩
    go_simp
    with_reducible rfl
   rotate_left
   ·simp only [Act.put, s0_, s1_, s2_, i64_w, i32_w]
    rfl
   refine pure_ (i := 18) (N := some 57) (v := ?_) (a' := ?_) #[Y, Y, Y, Y, Y, Y, Y, Y, Y, Z, Z, Y, Y, Y, Y, Y, Y, Y, Y, Z, Z, Z, Z, Z, Z, Z] rfl rfl (any_of HT_.out (by kernel_rfl)) (fun _ _ _ h => h) (Or.inl ⟨by rfl, ?_⟩) ?_ ?_
   rotate_left
   ·intro w'
    go_simp
    with_reducible rfl
   rotate_left
   ·simp only [Act.put, s0_, s1_, s2_, i64_w, i32_w]
    rfl
   refine take_ (i := 19) (N := some 58) (v := ?_) (a' := ?_) #[Y, Y, Y, Y, Y, Y, Y, Y, Y, Z, Z, Y, Y, Y, Y, Y, Y, Y, Y, Y, Z, Z, Z, Z, Z, Z] rfl rfl (take_ofW HT_.out HW_.out (by kernel_rfl)) (fun _ _ _ h => h) (Or.inl ⟨by rfl, ?_⟩) hHeld ?_ ?_
   rotate_left
   ·rintro w' ⟨s0, s1, s2, s3, s4, s5, s6, s7, s8, s9, s10, s11, s12, s13, s14, s15, s16, s17, s18⟩
    go_simp
    with_reducible rfl
   rotate_left
   ·simp only [Act.put, s0_, s1_, s2_, i64_w, i32_w]
    rfl
   refine join_ (σ := Value × Value × Value) 4 #[Y, Y, Y, Y, Y, Y, Y, Y, Y, Y, Y, Y, Y, Y, Y, Y, Y, Y, Y, Y, Y, Z, Y, Z, Z, Z] (fun s_ => [(48, s_.1), (49, s_.2.1), (59, s_.2.2), (61, .pointer (some ⟨gb399, 6, none⟩))]) (fun s_ w' => (w'.cell? ⟨gb399, 0, none⟩ = some (.int .i64 7) ∧ w'.cell? ⟨gb399, 1, none⟩ = some (.bool false) ∧ w'.cell? ⟨gb399, 2, none⟩ = some (.bool false) ∧ w'.cell? ⟨gb399, 3, none⟩ = some (.slice none 0 0) ∧ w'.cell? ⟨gb399, 4, none⟩ = some (.int .i64 0) ∧ w'.cell? ⟨gb399, 5, none⟩ = some (.string (⟨#[]⟩ : ByteArray)) ∧ w'.cell? ⟨gb399, 6, none⟩ = some (.slice Ao30 x400006_1.length co30) ∧ w'.cell? ⟨gb399, 7, none⟩ = some (.slice Ao31 x400007_1.length co31) ∧ w'.cell? (ad407.add (x12_1).toNat) = some (.int .i64 (rd t404 x12_1)) ∧ w'.cell? (ad408.add ((rd t404 x12_1)).toNat) = some (.string (rdOf ByteArray.empty l0 (rd t404 x12_1))) ∧ w'.cell? (ad407.add (x12_1).toNat) = some (.int .i64 (rd t404 x12_1)) ∧ w'.cell? (ad416.add (((rd t404 x12_1)).toNat * 8)) = some (.int .i64 ((rd_T50 l1 (rd t404 x12_1)).f0)) ∧ w'.cell? ⟨(ad416.add (((rd t404 x12_1)).toNat * 8)).block, (ad416.add (((rd t404 x12_1)).toNat * 8)).off + 1, none⟩ = some (.bool ((rd_T50 l1 (rd t404 x12_1)).f1)) ∧ w'.cell? ⟨(ad416.add (((rd t404 x12_1)).toNat * 8)).block, (ad416.add (((rd t404 x12_1)).toNat * 8)).off + 2, none⟩ = some (.bool ((rd_T50 l1 (rd t404 x12_1)).f2.f0)) ∧ w'.cell? ⟨(ad416.add (((rd t404 x12_1)).toNat * 8)).block, (ad416.add (((rd t404 x12_1)).toNat * 8)).off + 3, none⟩ = some (.slice A416_3 ((rd_T50 l1 (rd t404 x12_1)).f2.f1).length c416_3) ∧ w'.cell? ⟨(ad416.add (((rd t404 x12_1)).toNat * 8)).block, (ad416.add (((rd t404 x12_1)).toNat * 8)).off + 4, none⟩ = some (.int .i64 ((rd_T50 l1 (rd t404 x12_1)).f2.f2)) ∧ w'.cell? ⟨(ad416.add (((rd t404 x12_1)).toNat * 8)).block, (ad416.add (((rd t404 x12_1)).toNat * 8)).off + 5, none⟩ = some (.string ((rd_T50 l1 (rd t404 x12_1)).f3)) ∧ w'.cell? ⟨(ad416.add (((rd t404 x12_1)).toNat * 8)).block, (ad416.add (((rd t404 x12_1)).toNat * 8)).off + 6, none⟩ = some (.slice A416_6 ((rd_T50 l1 (rd t404 x12_1)).f4).length c416_6) ∧ w'.cell? ⟨(ad416.add (((rd t404 x12_1)).toNat * 8)).block, (ad416.add (((rd t404 x12_1)).toNat * 8)).off + 7, none⟩ = some (.slice A416_7 ((rd_T50 l1 (rd t404 x12_1)).f5).length c416_7)) ∧ (Kd.V (Kd.int .u32) 78 w' w.heap.size (fun k_ => (P1_ k_ ∨ w.heap.size ≤ k_) ∧ some k_ ≠ (s_.1 : Value).ownBlock ∧ some k_ ≠ (s_.2.1 : Value).ownBlock ∧ some k_ ≠ (s_.2.2 : Value).ownBlock ∧ some k_ ≠ (.slice (some ad407) t404.length co29 : Value).ownBlock ∧ some k_ ≠ (.slice Ao31 x400007_1.length co31 : Value).ownBlock ∧ k_ ≠ gb392 ∧ k_ ≠ gb399) (.slice A416_3 ((rd_T50 l1 (rd t404 x12_1)).f2.f1).length c416_3) ((rd_T50 l1 (rd t404 x12_1)).f2.f1)) ∧ (Kd.V Kd.string 9 w' w.heap.size (fun k_ => (P1_ k_ ∨ w.heap.size ≤ k_) ∧ some k_ ≠ (s_.1 : Value).ownBlock ∧ some k_ ≠ (s_.2.1 : Value).ownBlock ∧ some k_ ≠ (s_.2.2 : Value).ownBlock ∧ some k_ ≠ (.slice (some ad407) t404.length co29 : Value).ownBlock ∧ some k_ ≠ (.slice Ao31 x400007_1.length co31 : Value).ownBlock ∧ k_ ≠ gb392 ∧ k_ ≠ gb399) (.slice A416_6 ((rd_T50 l1 (rd t404 x12_1)).f4).length c416_6) ((rd_T50 l1 (rd t404 x12_1)).f4)) ∧ (Kd.V k50 50 w' w.heap.size (fun k_ => (P1_ k_ ∨ w.heap.size ≤ k_) ∧ some k_ ≠ (s_.1 : Value).ownBlock ∧ some k_ ≠ (s_.2.1 : Value).ownBlock ∧ some k_ ≠ (s_.2.2 : Value).ownBlock ∧ some k_ ≠ (.slice (some ad407) t404.length co29 : Value).ownBlock ∧ some k_ ≠ (.slice Ao31 x400007_1.length co31 : Value).ownBlock ∧ k_ ≠ gb392 ∧ k_ ≠ gb399) (.slice A416_7 ((rd_T50 l1 (rd t404 x12_1)).f5).length c416_7) ((rd_T50 l1 (rd t404 x12_1)).f5)) ∧ (Kd.R Kd.string 9 w' w.heap.size (fun k_ => (w.heap.size ≤ k_) ∧ some k_ ≠ (s_.2.1 : Value).ownBlock) s_.1 y409) ∧ (Kd.R Kd.string 9 w' w.heap.size (fun k_ => (w.heap.size ≤ k_) ∧ some k_ ≠ (s_.1 : Value).ownBlock) s_.2.1 y412) ∧ (Kd.N k50 50 w' w.heap.size (fun k_ => (P1_ k_ ∨ w.heap.size ≤ k_) ∧ some k_ ≠ (s_.1 : Value).ownBlock ∧ some k_ ≠ (s_.2.1 : Value).ownBlock ∧ some k_ ≠ (.slice (some ad407) t404.length co29 : Value).ownBlock ∧ some k_ ≠ (.slice Ao31 x400007_1.length co31 : Value).ownBlock ∧ k_ ≠ gb392 ∧ k_ ≠ gb399) s_.2.2 y417) ∧ (Kd.V k50 50 w' w.heap.size (fun k_ => (P1_ k_ ∨ w.heap.size ≤ k_) ∧ some k_ ≠ (s_.1 : Value).ownBlock ∧ some k_ ≠ (s_.2.1 : Value).ownBlock ∧ some k_ ≠ (s_.2.2 : Value).ownBlock ∧ some k_ ≠ (.slice (some ad407) t404.length co29 : Value).ownBlock ∧ some k_ ≠ (.slice Ao31 x400007_1.length co31 : Value).ownBlock ∧ k_ ≠ gb392 ∧ k_ ≠ gb399) (.slice (some ad416) l1.length c1) l1) ∧ (Kd.R (Kd.int .i64) 3 w' w.heap.size (fun k_ => (w.heap.size ≤ k_)) (.slice (some ad407) t404.length co29) t404) ∧ (Kd.N k50 50 w' w.heap.size (fun k_ => (P1_ k_ ∨ w.heap.size ≤ k_) ∧ some k_ ≠ (s_.1 : Value).ownBlock ∧ some k_ ≠ (s_.2.1 : Value).ownBlock ∧ some k_ ≠ (s_.2.2 : Value).ownBlock ∧ some k_ ≠ (.slice (some ad407) t404.length co29 : Value).ownBlock ∧ k_ ≠ gb392 ∧ k_ ≠ gb399) (.slice Ao31 x400007_1.length co31) x400007_1) ∧ (w'.heap[gb392]? = some (.cells #[.int .i64 0, .bool false, .bool false, .slice none 0 0, .int .i64 0, .string (⟨#[]⟩ : ByteArray), .slice none 0 0, .slice none 0 0] 50 (0, 0))) ∧ (w'.heap[gb399]? = some (.cells #[.int .i64 7, .bool false, .bool false, .slice none 0 0, .int .i64 0, .string (⟨#[]⟩ : ByteArray), .slice Ao30 x400006_1.length co30, .slice Ao31 x400007_1.length co31] 50 (0, 0))) ∧ (Below w.heap.size w w')) ?_ ?_
   rotate_left
   ·intro hCont
    refine two_ (i := 9) (j := 20) (Ni := some 48) (Nj := some 59) #[Y, Y, Y, Y, Y, Y, Y, Y, Y, Y, Z, Y, Y, Y, Y, Y, Y, Y, Y, Y, Z, Z, Z, Z, Z, Z] #[Y, Y, Y, Y, Y, Y, Y, Y, Y, Z, Z, Y, Y, Y, Y, Y, Y, Y, Y, Y, Y, Z, Z, Z, Z, Z] rfl rfl rfl rfl (two_of HT_.out (by kernel_rfl)) (by decide) (by decide) (fun K hK => ?_) (fun K hK => ?_)
    ·skip
     refine Kd.R_lit_step Kd.string _ 9 ?hg (N := 48) ?hd (xs := ([rdOf ByteArray.empty l0 (rd t404 x12_1)] : List ByteArray)) (inner := [.string (rdOf ByteArray.empty l0 (rd t404 x12_1))]) (ok := fun _ => True) (okp := fun _ => True) ?hr ?hp (fun _ hk => hk) trivial (Below.refl _ _) (Nat.le_refl _) (by simp) ?_; (case hd => rfl); (case hg => rfl); (case hr => first | (go_simp; done) | (go_simp; rfl)); (case hp => exact (Reps.one (show Kd.M Kd.string _ _ _ (rdOf ByteArray.empty l0 (rd t404 x12_1)) [.string (rdOf ByteArray.empty l0 (rd t404 x12_1))] from rfl) (Reps.none _ _)))
     intro v410 w33 ho34 hb hg_ hnew_
     have HS8_ := (hb.cell (World.block_lt_of_cell? _ _ (hHeld.2.2.2.2.2.2.2.2.1))).trans (hHeld.2.2.2.2.2.2.2.2.1)
     have HS10_ := (hb.cell (World.block_lt_of_cell? _ _ (hHeld.2.2.2.2.2.2.2.2.2.2.1))).trans (hHeld.2.2.2.2.2.2.2.2.2.2.1)
     have HS11_ := (hb.cell (World.block_lt_of_cell? _ _ (hHeld.2.2.2.2.2.2.2.2.2.2.2.1))).trans (hHeld.2.2.2.2.2.2.2.2.2.2.2.1)
     have HS12_ := (hb.cell (World.block_lt_of_cell? _ _ (hHeld.2.2.2.2.2.2.2.2.2.2.2.2.1))).trans (hHeld.2.2.2.2.2.2.2.2.2.2.2.2.1)
     have HS13_ := (hb.cell (World.block_lt_of_cell? _ _ (hHeld.2.2.2.2.2.2.2.2.2.2.2.2.2.1))).trans (hHeld.2.2.2.2.2.2.2.2.2.2.2.2.2.1)
     have HS14_ := (hb.cell (World.block_lt_of_cell? _ _ (hHeld.2.2.2.2.2.2.2.2.2.2.2.2.2.2.1))).trans (hHeld.2.2.2.2.2.2.2.2.2.2.2.2.2.2.1)
     have HS15_ := (hb.cell (World.block_lt_of_cell? _ _ (hHeld.2.2.2.2.2.2.2.2.2.2.2.2.2.2.2.1))).trans (hHeld.2.2.2.2.2.2.2.2.2.2.2.2.2.2.2.1)
     have HS16_ := (hb.cell (World.block_lt_of_cell? _ _ (hHeld.2.2.2.2.2.2.2.2.2.2.2.2.2.2.2.2.1))).trans (hHeld.2.2.2.2.2.2.2.2.2.2.2.2.2.2.2.2.1)
     have HS17_ := (hb.cell (World.block_lt_of_cell? _ _ (hHeld.2.2.2.2.2.2.2.2.2.2.2.2.2.2.2.2.2.1))).trans (hHeld.2.2.2.2.2.2.2.2.2.2.2.2.2.2.2.2.2.1)
     have HS18_ := (hb.cell (World.block_lt_of_cell? _ _ (hHeld.2.2.2.2.2.2.2.2.2.2.2.2.2.2.2.2.2.2))).trans (hHeld.2.2.2.2.2.2.2.2.2.2.2.2.2.2.2.2.2.2)
     clear hg_ hnew_
     (first | rw [← Ny409.out] at ho34 | (simp only [Int.reduceToNat] at ho34; rw [← Ny409.out] at ho34))
     have n0_ := Aside0.mk (Kd.V_elder' (by (with_reducible repeat (first | apply Kd.V_alloc | apply Kd.V_drewN | apply Kd.V_drew)); exact HO_1.out) (Kd.R_base ho34) hb)
     have n1_ := Aside0.mk (Kd.R_below (by (with_reducible repeat (first | apply Kd.R_alloc | apply Kd.R_drewN | apply Kd.R_drew)); exact HO_11.out) hb)
     have n2_ := Aside0.mk (Kd.R_elder' (by (with_reducible repeat (first | apply Kd.R_alloc | apply Kd.R_drewN | apply Kd.R_drew)); exact HO_400006.out) (Kd.R_base ho34) hb)
     have n3_ := Aside0.mk (Kd.N_elder' (by (with_reducible repeat (first | apply Kd.N_alloc | apply Kd.N_drewN | apply Kd.N_drew)); exact HO_400007.out) (Kd.R_base ho34) hb)
     have n4_ := Aside0.mk (Kd.V_elder' (by (with_reducible repeat (first | apply Kd.V_alloc | apply Kd.V_drewN | apply Kd.V_drew)); exact HL416_3.out) (Kd.R_base ho34) hb)
     have n5_ := Aside0.mk (Kd.V_elder' (by (with_reducible repeat (first | apply Kd.V_alloc | apply Kd.V_drewN | apply Kd.V_drew)); exact HL416_6.out) (Kd.R_base ho34) hb)
     have n6_ := Aside0.mk (Kd.V_elder' (by (with_reducible repeat (first | apply Kd.V_alloc | apply Kd.V_drewN | apply Kd.V_drew)); exact HL416_7.out) (Kd.R_base ho34) hb)
     have n7_ := Aside0.mk (Kd.R_lower (Kd.R_new' (Kd.R_newM (M := fun k_ => (w.heap.size ≤ k_)) ho34 (below_size (by repeat (first | (with_reducible first | exact HB.out | apply below_alloc | apply pw_below_drewN | apply below_drew1 | refine below_set ?_ GE392.out | refine below_set ?_ GE399.out) | exact HB.out))) (fun k_ h_ => h_)) (Kd.R_lt (by (with_reducible repeat (first | apply Kd.R_alloc | apply Kd.R_drewN | apply Kd.R_drew)); exact HO_400006.out))) (below_size (by repeat (first | (with_reducible first | exact HB.out | apply below_alloc | apply pw_below_drewN | apply below_drew1 | refine below_set ?_ GE392.out | refine below_set ?_ GE399.out) | exact HB.out))))
     have n8_ := Aside0.mk (blk_below (g := gb392) (o := .cells #[.int .i64 0, .bool false, .bool false, .slice none 0 0, .int .i64 0, .string (⟨#[]⟩ : ByteArray), .slice none 0 0, .slice none 0 0] 50 (0, 0)) (by (with_reducible repeat (first | refine blk_drewN ?_ _ | refine blk_drew ?_ | refine blk_alloc ?_ _)); exact BK392.out) hb)
     have n9_ := Aside0.mk (blk_below (g := gb399) (o := .cells #[.int .i64 7, .bool false, .bool false, .slice none 0 0, .int .i64 0, .string (⟨#[]⟩ : ByteArray), .slice Ao30 x400006_1.length co30, .slice Ao31 x400007_1.length co31] 50 (0, 0)) (by (with_reducible repeat (first | refine blk_drewN ?_ _ | refine blk_drew ?_ | refine blk_alloc ?_ _)); exact BK399.out) hb)
     have n10_ := Aside0.mk (Kd.C_below (by repeat (first | (with_reducible exact HR416_3.out) | (with_reducible refine Kd.C_alloc ?_ _) | (with_reducible refine Kd.C_drewN ?_ _) | (with_reducible refine Kd.C_drew ?_) | exact HR416_3.out)) hb)
     have n11_ := Aside0.mk (Kd.C_below (by repeat (first | (with_reducible exact HR416_6.out) | (with_reducible refine Kd.C_alloc ?_ _) | (with_reducible refine Kd.C_drewN ?_ _) | (with_reducible refine Kd.C_drew ?_) | exact HR416_6.out)) hb)
     have n12_ := Aside0.mk (Kd.C_below (by repeat (first | (with_reducible exact HR416_7.out) | (with_reducible refine Kd.C_alloc ?_ _) | (with_reducible refine Kd.C_drewN ?_ _) | (with_reducible refine Kd.C_drew ?_) | exact HR416_7.out)) hb)
     have n13_ := Aside0.mk (below_step (by repeat (first | (with_reducible first | exact HB.out | apply below_alloc | apply pw_below_drewN | apply below_drew1 | refine below_set ?_ GE392.out | refine below_set ?_ GE399.out) | exact HB.out)) hb)
     clear HO_1
     clear HO_11
     clear HO_400006
     clear HO_400007
     clear HL416_3
     clear HL416_6
     clear HL416_7
     clear BK392
     clear BK399
     clear HR416_3
     clear HR416_6
     clear HR416_7
     clear HB
     have HO_1 := n0_
     have HO_11 := n1_
     have HO_400006 := n2_
     have HO_400007 := n3_
     have HL416_3 := n4_
     have HL416_6 := n5_
     have HL416_7 := n6_
     have HO411 := n7_
     have BK392 := n8_
     have BK399 := n9_
     have HR416_3 := n10_
     have HR416_6 := n11_
     have HR416_7 := n12_
     have HB := n13_
     clear n0_ n1_ n2_ n3_ n4_ n5_ n6_ n7_ n8_ n9_ n10_ n11_ n12_ n13_
     clear hb ho34
     obtain ⟨Ao36, co36, eo36⟩ := Kd.R_slice HO411.out
     (first | subst eo36 | (injection eo36 with f1_ f2_ f3_; have f4_ := f1_.symm; have f5_ := f3_.symm; clear f1_ f2_ f3_; subst f4_; subst f5_))
     refine hK.out _ _ ⟨(blk_cell BK399.out 0).trans rfl, (blk_cell BK399.out 1).trans rfl, (blk_cell BK399.out 2).trans rfl, (blk_cell BK399.out 3).trans rfl, (blk_cell BK399.out 4).trans rfl, (blk_cell BK399.out 5).trans rfl, (blk_cell BK399.out 6).trans rfl, (blk_cell BK399.out 7).trans rfl, HS8_, ((HB.out.cell (World.block_lt_of_cell? w _ hw408_0)).trans hw408_0), HS10_, HS11_, HS12_, HS13_, HS14_, HS15_, HS16_, HS17_, HS18_⟩ (fun hHeld => ?_)
     clear hK K
     refine norm_ (a' := ?_) ?_ ?_
     rotate_left
     ·show Act.put _ (some 48) _ = _
      simp only [Act.put, s0_, s1_, s2_, i64_w, i32_w]
      rfl
     refine two_ (i := 10) (j := 20) (Ni := some 49) (Nj := some 59) #[Y, Y, Y, Y, Y, Y, Y, Y, Y, Y, Y, Y, Y, Y, Y, Y, Y, Y, Y, Y, Z, Z, Z, Z, Z, Z] #[Y, Y, Y, Y, Y, Y, Y, Y, Y, Y, Z, Y, Y, Y, Y, Y, Y, Y, Y, Y, Y, Z, Z, Z, Z, Z] rfl rfl rfl rfl (two_of HT_.out (by kernel_rfl)) (by decide) (by decide) (fun K hK => ?_) (fun K hK => ?_)
     ·skip
      refine Kd.R_append_rows_step Kd.string (w0 := w) w.heap.size (by rfl) (.tmp 40) (.tmp 48) 35 9 (.string ⟨#[]⟩) 16 rfl Try.underlying35 info9 rfl (by decide) (by omega) (.slice Ao30 x400006_1.length co30) x400006_1 y409 _ _ _ (fun k_ => (w.heap.size ≤ k_) ∧ some k_ ≠ (.slice Ao36 y409.length co36 : Value).ownBlock) (fun _ => False) rfl rfl ?aO ?aR (fun _ _ h => h) (fun _ h => h.elim) ?aF ?aB ?aS ?aL ?_
      (case aR => repeat (first | exact (Kd.R_reads' HO411.out).2.2 | (with_reducible refine Kd.C_alloc ?_ _) | (with_reducible refine Kd.C_drewN ?_ _) | (with_reducible refine Kd.C_drew ?_)))
      (case aB => exact (by repeat (first | (with_reducible first | exact HB.out | apply below_alloc | apply pw_below_drewN | apply below_drew1 | refine below_set ?_ GE392.out | refine below_set ?_ GE399.out) | exact HB.out)))
      (case aF => exact (fun k_ hk => ⟨(Nat.le_trans (below_size (by repeat (first | (with_reducible first | exact HB.out | apply below_alloc | apply pw_below_drewN | apply below_drew1 | refine below_set ?_ GE392.out | refine below_set ?_ GE399.out) | exact HB.out))) hk), Kd.fresh' (Kd.R_lt (by (with_reducible repeat (first | apply Kd.R_alloc | apply Kd.R_drewN | apply Kd.R_drew)); exact HO411.out)) k_ hk⟩))
      (case aO => exact (by (with_reducible repeat (first | apply Kd.R_alloc | apply Kd.R_drewN | apply Kd.R_drew)); exact HO_400006.out))
      (case aS => exact (below_size (by repeat (first | (with_reducible first | exact HB.out | apply below_alloc | apply pw_below_drewN | apply below_drew1 | refine below_set ?_ GE392.out | refine below_set ?_ GE399.out) | exact HB.out))))
      (case aL => have := LMc26.out; omega)
      intro v413 w35 ho hb hg hat
      have HS8_ := cell_grown hg (hHeld.2.2.2.2.2.2.2.2.1) (by (first | rw [add_block] | (show some (Addr.add _ _).block ≠ _; rw [add_block]) | skip); first | (obtain ⟨_, hc_⟩ := Kd.R_typed HO_11.out _ rfl; first | exact Kd.R_ne HO_400006.out hc_ (by decide) | exact Kd.N_ne HO_400006.out hc_ (by decide)) | (have hc_ := Kd.F_in (Kd.V_F HO_11.out) rfl (by have a_ := of_eq_true p407; have b_ := of_eq_true q407; omega) (by decide); (try simp only [and_assoc] at hc_); repeat (first | (with_reducible exact hc_.1) | (with_reducible exact hc_) | replace hc_ := hc_.2)))
      have HS10_ := cell_grown hg (hHeld.2.2.2.2.2.2.2.2.2.2.1) (by (first | rw [add_block] | (show some (Addr.add _ _).block ≠ _; rw [add_block]) | skip); first | (obtain ⟨_, hc_⟩ := Kd.R_typed HO_11.out _ rfl; first | exact Kd.R_ne HO_400006.out hc_ (by decide) | exact Kd.N_ne HO_400006.out hc_ (by decide)) | (have hc_ := Kd.F_in (Kd.V_F HO_11.out) rfl (by have a_ := of_eq_true p415; have b_ := of_eq_true q415; omega) (by decide); (try simp only [and_assoc] at hc_); repeat (first | (with_reducible exact hc_.1) | (with_reducible exact hc_) | replace hc_ := hc_.2)))
      have HS11_ := cell_grown hg (hHeld.2.2.2.2.2.2.2.2.2.2.2.1) (by (first | rw [add_block] | (show some (Addr.add _ _).block ≠ _; rw [add_block]) | skip); first | (obtain ⟨_, hc_⟩ := Kd.R_typed HO_1.out _ rfl; first | exact Kd.R_ne HO_400006.out hc_ (by decide) | exact Kd.N_ne HO_400006.out hc_ (by decide)) | (have hc_ := Kd.F_in (Kd.V_F HO_1.out) rfl (by have a_ := of_eq_true p416; have b_ := of_eq_true q416; omega) (by decide); (try simp only [and_assoc] at hc_); repeat (first | (with_reducible exact hc_.1) | (with_reducible exact hc_) | replace hc_ := hc_.2)))
      have HS12_ := cell_grown hg (hHeld.2.2.2.2.2.2.2.2.2.2.2.2.1) (by (first | rw [add_block] | (show some (Addr.add _ _).block ≠ _; rw [add_block]) | skip); first | (obtain ⟨_, hc_⟩ := Kd.R_typed HO_1.out _ rfl; first | exact Kd.R_ne HO_400006.out hc_ (by decide) | exact Kd.N_ne HO_400006.out hc_ (by decide)) | (have hc_ := Kd.F_in (Kd.V_F HO_1.out) rfl (by have a_ := of_eq_true p416; have b_ := of_eq_true q416; omega) (by decide); (try simp only [and_assoc] at hc_); repeat (first | (with_reducible exact hc_.1) | (with_reducible exact hc_) | replace hc_ := hc_.2)))
      have HS13_ := cell_grown hg (hHeld.2.2.2.2.2.2.2.2.2.2.2.2.2.1) (by (first | rw [add_block] | (show some (Addr.add _ _).block ≠ _; rw [add_block]) | skip); first | (obtain ⟨_, hc_⟩ := Kd.R_typed HO_1.out _ rfl; first | exact Kd.R_ne HO_400006.out hc_ (by decide) | exact Kd.N_ne HO_400006.out hc_ (by decide)) | (have hc_ := Kd.F_in (Kd.V_F HO_1.out) rfl (by have a_ := of_eq_true p416; have b_ := of_eq_true q416; omega) (by decide); (try simp only [and_assoc] at hc_); repeat (first | (with_reducible exact hc_.1) | (with_reducible exact hc_) | replace hc_ := hc_.2)))
      have HS14_ := cell_grown hg (hHeld.2.2.2.2.2.2.2.2.2.2.2.2.2.2.1) (by (first | rw [add_block] | (show some (Addr.add _ _).block ≠ _; rw [add_block]) | skip); first | (obtain ⟨_, hc_⟩ := Kd.R_typed HO_1.out _ rfl; first | exact Kd.R_ne HO_400006.out hc_ (by decide) | exact Kd.N_ne HO_400006.out hc_ (by decide)) | (have hc_ := Kd.F_in (Kd.V_F HO_1.out) rfl (by have a_ := of_eq_true p416; have b_ := of_eq_true q416; omega) (by decide); (try simp only [and_assoc] at hc_); repeat (first | (with_reducible exact hc_.1) | (with_reducible exact hc_) | replace hc_ := hc_.2)))
      have HS15_ := cell_grown hg (hHeld.2.2.2.2.2.2.2.2.2.2.2.2.2.2.2.1) (by (first | rw [add_block] | (show some (Addr.add _ _).block ≠ _; rw [add_block]) | skip); first | (obtain ⟨_, hc_⟩ := Kd.R_typed HO_1.out _ rfl; first | exact Kd.R_ne HO_400006.out hc_ (by decide) | exact Kd.N_ne HO_400006.out hc_ (by decide)) | (have hc_ := Kd.F_in (Kd.V_F HO_1.out) rfl (by have a_ := of_eq_true p416; have b_ := of_eq_true q416; omega) (by decide); (try simp only [and_assoc] at hc_); repeat (first | (with_reducible exact hc_.1) | (with_reducible exact hc_) | replace hc_ := hc_.2)))
      have HS16_ := cell_grown hg (hHeld.2.2.2.2.2.2.2.2.2.2.2.2.2.2.2.2.1) (by (first | rw [add_block] | (show some (Addr.add _ _).block ≠ _; rw [add_block]) | skip); first | (obtain ⟨_, hc_⟩ := Kd.R_typed HO_1.out _ rfl; first | exact Kd.R_ne HO_400006.out hc_ (by decide) | exact Kd.N_ne HO_400006.out hc_ (by decide)) | (have hc_ := Kd.F_in (Kd.V_F HO_1.out) rfl (by have a_ := of_eq_true p416; have b_ := of_eq_true q416; omega) (by decide); (try simp only [and_assoc] at hc_); repeat (first | (with_reducible exact hc_.1) | (with_reducible exact hc_) | replace hc_ := hc_.2)))
      have HS17_ := cell_grown hg (hHeld.2.2.2.2.2.2.2.2.2.2.2.2.2.2.2.2.2.1) (by (first | rw [add_block] | (show some (Addr.add _ _).block ≠ _; rw [add_block]) | skip); first | (obtain ⟨_, hc_⟩ := Kd.R_typed HO_1.out _ rfl; first | exact Kd.R_ne HO_400006.out hc_ (by decide) | exact Kd.N_ne HO_400006.out hc_ (by decide)) | (have hc_ := Kd.F_in (Kd.V_F HO_1.out) rfl (by have a_ := of_eq_true p416; have b_ := of_eq_true q416; omega) (by decide); (try simp only [and_assoc] at hc_); repeat (first | (with_reducible exact hc_.1) | (with_reducible exact hc_) | replace hc_ := hc_.2)))
      have HS18_ := cell_grown hg (hHeld.2.2.2.2.2.2.2.2.2.2.2.2.2.2.2.2.2.2) (by (first | rw [add_block] | (show some (Addr.add _ _).block ≠ _; rw [add_block]) | skip); first | (obtain ⟨_, hc_⟩ := Kd.R_typed HO_1.out _ rfl; first | exact Kd.R_ne HO_400006.out hc_ (by decide) | exact Kd.N_ne HO_400006.out hc_ (by decide)) | (have hc_ := Kd.F_in (Kd.V_F HO_1.out) rfl (by have a_ := of_eq_true p416; have b_ := of_eq_true q416; omega) (by decide); (try simp only [and_assoc] at hc_); repeat (first | (with_reducible exact hc_.1) | (with_reducible exact hc_) | replace hc_ := hc_.2)))
      rw [← Ny412.out] at ho
      have n0_ := Aside0.mk (Kd.V_afterv (ok := (fun k_ => (P1_ k_ ∨ w.heap.size ≤ k_) ∧ some k_ ≠ (.slice (some ad407) t404.length co29 : Value).ownBlock ∧ some k_ ≠ (.slice Ao31 x400007_1.length co31 : Value).ownBlock ∧ some k_ ≠ (.slice Ao36 y409.length co36 : Value).ownBlock ∧ k_ ≠ gb392 ∧ k_ ≠ gb399)) (by (with_reducible repeat (first | apply Kd.V_alloc | apply Kd.V_drewN | apply Kd.V_drew)); exact Kd.V_mono HO_1.out (fun _ hk => ⟨⟨hk.1.1, ⟨hk.1.2.1, ⟨hk.1.2.2.2.1, ⟨hk.2, ⟨hk.1.2.2.2.2.1, hk.1.2.2.2.2.2⟩⟩⟩⟩⟩, hk.1.2.2.1⟩)) hg hat)
      have n1_ := Aside0.mk (Kd.R_over' (by (with_reducible repeat (first | apply Kd.R_alloc | apply Kd.R_drewN | apply Kd.R_drew)); exact HO_11.out) (Kd.R_typed (by (with_reducible repeat (first | apply Kd.R_alloc | apply Kd.R_drewN | apply Kd.R_drew)); exact HO_400006.out)) (by decide) hg)
      have n2_ := Aside0.mk (Kd.N_afterv (ok := (fun k_ => (P1_ k_ ∨ w.heap.size ≤ k_) ∧ some k_ ≠ (.slice (some ad407) t404.length co29 : Value).ownBlock ∧ some k_ ≠ (.slice Ao36 y409.length co36 : Value).ownBlock ∧ k_ ≠ gb392 ∧ k_ ≠ gb399)) (by (with_reducible repeat (first | apply Kd.N_alloc | apply Kd.N_drewN | apply Kd.N_drew)); exact Kd.N_mono HO_400007.out (fun _ hk => ⟨⟨hk.1.1, ⟨hk.1.2.1, ⟨hk.2, ⟨hk.1.2.2.2.1, hk.1.2.2.2.2⟩⟩⟩⟩, hk.1.2.2.1⟩)) hg hat)
      have n3_ := Aside0.mk (blk_grown (g := gb392) (o := .cells #[.int .i64 0, .bool false, .bool false, .slice none 0 0, .int .i64 0, .string (⟨#[]⟩ : ByteArray), .slice none 0 0, .slice none 0 0] 50 (0, 0)) (by (with_reducible repeat (first | refine blk_drewN ?_ _ | refine blk_drew ?_ | refine blk_alloc ?_ _)); exact BK392.out) hg (Kd.R_ne HO_400006.out BK392.out (by decide)))
      have n4_ := Aside0.mk (blk_grown (g := gb399) (o := .cells #[.int .i64 7, .bool false, .bool false, .slice none 0 0, .int .i64 0, .string (⟨#[]⟩ : ByteArray), .slice Ao30 x400006_1.length co30, .slice Ao31 x400007_1.length co31] 50 (0, 0)) (by (with_reducible repeat (first | refine blk_drewN ?_ _ | refine blk_drew ?_ | refine blk_alloc ?_ _)); exact BK399.out) hg (Kd.R_ne HO_400006.out BK399.out (by decide)))
      have n5_ := Aside0.mk (Kd.V_afterv (ok := (fun k_ => (P1_ k_ ∨ w.heap.size ≤ k_) ∧ some k_ ≠ (.slice (some ad407) t404.length co29 : Value).ownBlock ∧ some k_ ≠ (.slice Ao31 x400007_1.length co31 : Value).ownBlock ∧ some k_ ≠ (.slice Ao36 y409.length co36 : Value).ownBlock ∧ k_ ≠ gb392 ∧ k_ ≠ gb399)) (by (with_reducible repeat (first | apply Kd.V_alloc | apply Kd.V_drewN | apply Kd.V_drew)); exact Kd.V_mono HL416_3.out (fun _ hk => ⟨⟨hk.1.1, ⟨hk.1.2.1, ⟨hk.1.2.2.2.1, ⟨hk.2, ⟨hk.1.2.2.2.2.1, hk.1.2.2.2.2.2⟩⟩⟩⟩⟩, hk.1.2.2.1⟩)) hg hat)
      have n6_ := Aside0.mk (Kd.V_afterv (ok := (fun k_ => (P1_ k_ ∨ w.heap.size ≤ k_) ∧ some k_ ≠ (.slice (some ad407) t404.length co29 : Value).ownBlock ∧ some k_ ≠ (.slice Ao31 x400007_1.length co31 : Value).ownBlock ∧ some k_ ≠ (.slice Ao36 y409.length co36 : Value).ownBlock ∧ k_ ≠ gb392 ∧ k_ ≠ gb399)) (by (with_reducible repeat (first | apply Kd.V_alloc | apply Kd.V_drewN | apply Kd.V_drew)); exact Kd.V_mono HL416_6.out (fun _ hk => ⟨⟨hk.1.1, ⟨hk.1.2.1, ⟨hk.1.2.2.2.1, ⟨hk.2, ⟨hk.1.2.2.2.2.1, hk.1.2.2.2.2.2⟩⟩⟩⟩⟩, hk.1.2.2.1⟩)) hg hat)
      have n7_ := Aside0.mk (Kd.V_afterv (ok := (fun k_ => (P1_ k_ ∨ w.heap.size ≤ k_) ∧ some k_ ≠ (.slice (some ad407) t404.length co29 : Value).ownBlock ∧ some k_ ≠ (.slice Ao31 x400007_1.length co31 : Value).ownBlock ∧ some k_ ≠ (.slice Ao36 y409.length co36 : Value).ownBlock ∧ k_ ≠ gb392 ∧ k_ ≠ gb399)) (by (with_reducible repeat (first | apply Kd.V_alloc | apply Kd.V_drewN | apply Kd.V_drew)); exact Kd.V_mono HL416_7.out (fun _ hk => ⟨⟨hk.1.1, ⟨hk.1.2.1, ⟨hk.1.2.2.2.1, ⟨hk.2, ⟨hk.1.2.2.2.2.1, hk.1.2.2.2.2.2⟩⟩⟩⟩⟩, hk.1.2.2.1⟩)) hg hat)
      have n8_ := Aside0.mk (Kd.R_after (ok := (fun k_ => (w.heap.size ≤ k_))) (by (with_reducible repeat (first | apply Kd.R_alloc | apply Kd.R_drewN | apply Kd.R_drew)); exact Kd.R_mono HO411.out (fun _ hk => ⟨hk.1.1, hk.2⟩)) hg hat)
      have n9_ := Aside0.mk (hb)
      have n10_ := Aside0.mk (ho)
      clear HO_1
      clear HO_11
      clear HO_400007
      clear BK392
      clear BK399
      clear HL416_3
      clear HL416_6
      clear HL416_7
      clear HO411
      clear HB
      clear HO_400006
      have HO_1 := n0_
      have HO_11 := n1_
      have HO_400007 := n2_
      have BK392 := n3_
      have BK399 := n4_
      have HL416_3 := n5_
      have HL416_6 := n6_
      have HL416_7 := n7_
      have HO411 := n8_
      have HB := n9_
      have HO414 := n10_
      clear n0_ n1_ n2_ n3_ n4_ n5_ n6_ n7_ n8_ n9_ n10_
      clear ho hb hg hat
      refine hK.out _ _ ⟨(blk_cell BK399.out 0).trans rfl, (blk_cell BK399.out 1).trans rfl, (blk_cell BK399.out 2).trans rfl, (blk_cell BK399.out 3).trans rfl, (blk_cell BK399.out 4).trans rfl, (blk_cell BK399.out 5).trans rfl, (blk_cell BK399.out 6).trans rfl, (blk_cell BK399.out 7).trans rfl, HS8_, ((HB.out.cell (World.block_lt_of_cell? w _ hw408_0)).trans hw408_0), HS10_, HS11_, HS12_, HS13_, HS14_, HS15_, HS16_, HS17_, HS18_⟩ (fun hHeld => ?_)
      clear hK K
      refine norm_ (a' := ?_) ?_ ?_
      rotate_left
      ·show Act.put _ (some 49) _ = _
       simp only [Act.put, s0_, s1_, s2_, i64_w, i32_w]
       rfl
      refine pure_ (i := 22) (N := some 61) (v := ?_) (a' := ?_) #[Y, Y, Y, Y, Y, Y, Y, Y, Y, Y, Y, Y, Y, Y, Y, Y, Y, Y, Y, Y, Z, Z, Y, Z, Z, Z] rfl rfl (any_of HT_.out (by kernel_rfl)) (fun _ _ _ h => h) (Or.inl ⟨by rfl, ?_⟩) ?_ ?_
      rotate_left
      ·intro w'
       go_simp
       with_reducible rfl
      rotate_left
      ·simp only [Act.put, s0_, s1_, s2_, i64_w, i32_w]
       rfl
      refine one_ (i := 20) (N := some 59) #[Y, Y, Y, Y, Y, Y, Y, Y, Y, Y, Y, Y, Y, Y, Y, Y, Y, Y, Y, Y, Y, Z, Y, Z, Z, Z] rfl rfl (one_of HT_.out (by kernel_rfl)) (by decide) (fun K hK => ?_)
      refine Kd.N_lit_step k50 _ 50 ?hg (N' := 59) ?hd (xs := ([(⟨(rd_T50 l1 (rd t404 x12_1)).f0, (rd_T50 l1 (rd t404 x12_1)).f1, (⟨(rd_T50 l1 (rd t404 x12_1)).f2.f0, (rd_T50 l1 (rd t404 x12_1)).f2.f1, (rd_T50 l1 (rd t404 x12_1)).f2.f2⟩ : S48), (rd_T50 l1 (rd t404 x12_1)).f3, (rd_T50 l1 (rd t404 x12_1)).f4, (rd_T50 l1 (rd t404 x12_1)).f5⟩ : S50)] : List (S50))) (inner := [.int .i64 ((rd_T50 l1 (rd t404 x12_1)).f0), .bool ((rd_T50 l1 (rd t404 x12_1)).f1), .bool ((rd_T50 l1 (rd t404 x12_1)).f2.f0), .slice A416_3 ((rd_T50 l1 (rd t404 x12_1)).f2.f1).length c416_3, .int .i64 ((rd_T50 l1 (rd t404 x12_1)).f2.f2), .string ((rd_T50 l1 (rd t404 x12_1)).f3), .slice A416_6 ((rd_T50 l1 (rd t404 x12_1)).f4).length c416_6, .slice A416_7 ((rd_T50 l1 (rd t404 x12_1)).f5).length c416_7]) (ok := (fun k_ => (P1_ k_ ∨ w.heap.size ≤ k_) ∧ some k_ ≠ (.slice (some ad407) t404.length co29 : Value).ownBlock ∧ some k_ ≠ (.slice Ao31 x400007_1.length co31 : Value).ownBlock ∧ some k_ ≠ (.slice Ao36 y409.length co36 : Value).ownBlock ∧ some k_ ≠ (v413 : Value).ownBlock ∧ k_ ≠ gb392 ∧ k_ ≠ gb399)) (okp := (fun k_ => (P1_ k_ ∨ w.heap.size ≤ k_) ∧ some k_ ≠ (.slice (some ad407) t404.length co29 : Value).ownBlock ∧ some k_ ≠ (.slice Ao31 x400007_1.length co31 : Value).ownBlock ∧ some k_ ≠ (.slice Ao36 y409.length co36 : Value).ownBlock ∧ some k_ ≠ (v413 : Value).ownBlock ∧ k_ ≠ gb392 ∧ k_ ≠ gb399)) ?hr ?hp (fun _ hk => hk) ((show ∀ k_, w35.heap.size ≤ k_ → (fun k_ => (P1_ k_ ∨ w.heap.size ≤ k_) ∧ some k_ ≠ (.slice (some ad407) t404.length co29 : Value).ownBlock ∧ some k_ ≠ (.slice Ao31 x400007_1.length co31 : Value).ownBlock ∧ some k_ ≠ (.slice Ao36 y409.length co36 : Value).ownBlock ∧ some k_ ≠ (v413 : Value).ownBlock ∧ k_ ≠ gb392 ∧ k_ ≠ gb399) k_ from fun k_ hk => ⟨(.inr (Nat.le_trans (below_size (by repeat (first | (with_reducible first | exact HB.out | apply below_alloc | apply pw_below_drewN | apply below_drew1 | refine below_set ?_ GE392.out | refine below_set ?_ GE399.out) | exact HB.out))) hk)), Kd.fresh' (Kd.R_lt (by (with_reducible repeat (first | apply Kd.R_alloc | apply Kd.R_drewN | apply Kd.R_drew)); exact HO_11.out)) k_ hk, Kd.fresh' (Kd.N_lt (by (with_reducible repeat (first | apply Kd.N_alloc | apply Kd.N_drewN | apply Kd.N_drew)); exact HO_400007.out)) k_ hk, Kd.fresh' (Kd.R_lt (by (with_reducible repeat (first | apply Kd.R_alloc | apply Kd.R_drewN | apply Kd.R_drew)); exact HO411.out)) k_ hk, Kd.fresh' (Kd.R_lt (by (with_reducible repeat (first | apply Kd.R_alloc | apply Kd.R_drewN | apply Kd.R_drew)); exact HO414.out)) k_ hk, Kd.freshB (g := gb392) (o := .cells #[.int .i64 0, .bool false, .bool false, .slice none 0 0, .int .i64 0, .string (⟨#[]⟩ : ByteArray), .slice none 0 0, .slice none 0 0] 50 (0, 0)) (by (with_reducible repeat (first | refine blk_drewN ?_ _ | refine blk_drew ?_ | refine blk_alloc ?_ _)); exact BK392.out) k_ hk, Kd.freshB (g := gb399) (o := .cells #[.int .i64 7, .bool false, .bool false, .slice none 0 0, .int .i64 0, .string (⟨#[]⟩ : ByteArray), .slice Ao30 x400006_1.length co30, .slice Ao31 x400007_1.length co31] 50 (0, 0)) (by (with_reducible repeat (first | refine blk_drewN ?_ _ | refine blk_drew ?_ | refine blk_alloc ?_ _)); exact BK399.out) k_ hk⟩) _ (Nat.le_refl _)) (Below.refl _ _) (Nat.le_refl _) (by simp) ?_; (case hd => rfl); (case hg => rfl); (case hr => first | (go_simp; done) | (go_simp; rfl)); (case hp => exact (Reps.c8 (show Kd.FK k50 _ _ (⟨(rd_T50 l1 (rd t404 x12_1)).f0, (rd_T50 l1 (rd t404 x12_1)).f1, (⟨(rd_T50 l1 (rd t404 x12_1)).f2.f0, (rd_T50 l1 (rd t404 x12_1)).f2.f1, (rd_T50 l1 (rd t404 x12_1)).f2.f2⟩ : S48), (rd_T50 l1 (rd t404 x12_1)).f3, (rd_T50 l1 (rd t404 x12_1)).f4, (rd_T50 l1 (rd t404 x12_1)).f5⟩ : S50) [.int .i64 ((rd_T50 l1 (rd t404 x12_1)).f0), .bool ((rd_T50 l1 (rd t404 x12_1)).f1), .bool ((rd_T50 l1 (rd t404 x12_1)).f2.f0), .slice A416_3 ((rd_T50 l1 (rd t404 x12_1)).f2.f1).length c416_3, .int .i64 ((rd_T50 l1 (rd t404 x12_1)).f2.f2), .string ((rd_T50 l1 (rd t404 x12_1)).f3), .slice A416_6 ((rd_T50 l1 (rd t404 x12_1)).f4).length c416_6, .slice A416_7 ((rd_T50 l1 (rd t404 x12_1)).f5).length c416_7] from (k50_mkF _ _ (⟨(rd_T50 l1 (rd t404 x12_1)).f0, (rd_T50 l1 (rd t404 x12_1)).f1, (⟨(rd_T50 l1 (rd t404 x12_1)).f2.f0, (rd_T50 l1 (rd t404 x12_1)).f2.f1, (rd_T50 l1 (rd t404 x12_1)).f2.f2⟩ : S48), (rd_T50 l1 (rd t404 x12_1)).f3, (rd_T50 l1 (rd t404 x12_1)).f4, (rd_T50 l1 (rd t404 x12_1)).f5⟩ : S50) (Kd.V_reads' (Kd.V_mono (ok' := (fun k_ => (P1_ k_ ∨ w.heap.size ≤ k_) ∧ some k_ ≠ (.slice (some ad407) t404.length co29 : Value).ownBlock ∧ some k_ ≠ (.slice Ao31 x400007_1.length co31 : Value).ownBlock ∧ some k_ ≠ (.slice Ao36 y409.length co36 : Value).ownBlock ∧ some k_ ≠ (v413 : Value).ownBlock ∧ k_ ≠ gb392 ∧ k_ ≠ gb399)) (HL416_3.out) (fun k_ hk => ⟨hk.1.1, ⟨hk.1.2.1, ⟨hk.1.2.2.1, ⟨hk.1.2.2.2.1, ⟨hk.2, ⟨hk.1.2.2.2.2.1, hk.1.2.2.2.2.2⟩⟩⟩⟩⟩⟩))).2.1 (Kd.V_F (Kd.V_mono (ok' := (fun k_ => (P1_ k_ ∨ w.heap.size ≤ k_) ∧ some k_ ≠ (.slice (some ad407) t404.length co29 : Value).ownBlock ∧ some k_ ≠ (.slice Ao31 x400007_1.length co31 : Value).ownBlock ∧ some k_ ≠ (.slice Ao36 y409.length co36 : Value).ownBlock ∧ some k_ ≠ (v413 : Value).ownBlock ∧ k_ ≠ gb392 ∧ k_ ≠ gb399)) (HL416_3.out) (fun k_ hk => ⟨hk.1.1, ⟨hk.1.2.1, ⟨hk.1.2.2.1, ⟨hk.1.2.2.2.1, ⟨hk.2, ⟨hk.1.2.2.2.2.1, hk.1.2.2.2.2.2⟩⟩⟩⟩⟩⟩))) (Kd.V_reads' (Kd.V_mono (ok' := (fun k_ => (P1_ k_ ∨ w.heap.size ≤ k_) ∧ some k_ ≠ (.slice (some ad407) t404.length co29 : Value).ownBlock ∧ some k_ ≠ (.slice Ao31 x400007_1.length co31 : Value).ownBlock ∧ some k_ ≠ (.slice Ao36 y409.length co36 : Value).ownBlock ∧ some k_ ≠ (v413 : Value).ownBlock ∧ k_ ≠ gb392 ∧ k_ ≠ gb399)) (HL416_6.out) (fun k_ hk => ⟨hk.1.1, ⟨hk.1.2.1, ⟨hk.1.2.2.1, ⟨hk.1.2.2.2.1, ⟨hk.2, ⟨hk.1.2.2.2.2.1, hk.1.2.2.2.2.2⟩⟩⟩⟩⟩⟩))).2.1 (Kd.V_F (Kd.V_mono (ok' := (fun k_ => (P1_ k_ ∨ w.heap.size ≤ k_) ∧ some k_ ≠ (.slice (some ad407) t404.length co29 : Value).ownBlock ∧ some k_ ≠ (.slice Ao31 x400007_1.length co31 : Value).ownBlock ∧ some k_ ≠ (.slice Ao36 y409.length co36 : Value).ownBlock ∧ some k_ ≠ (v413 : Value).ownBlock ∧ k_ ≠ gb392 ∧ k_ ≠ gb399)) (HL416_6.out) (fun k_ hk => ⟨hk.1.1, ⟨hk.1.2.1, ⟨hk.1.2.2.1, ⟨hk.1.2.2.2.1, ⟨hk.2, ⟨hk.1.2.2.2.2.1, hk.1.2.2.2.2.2⟩⟩⟩⟩⟩⟩))) (Kd.V_reads' (Kd.V_mono (ok' := (fun k_ => (P1_ k_ ∨ w.heap.size ≤ k_) ∧ some k_ ≠ (.slice (some ad407) t404.length co29 : Value).ownBlock ∧ some k_ ≠ (.slice Ao31 x400007_1.length co31 : Value).ownBlock ∧ some k_ ≠ (.slice Ao36 y409.length co36 : Value).ownBlock ∧ some k_ ≠ (v413 : Value).ownBlock ∧ k_ ≠ gb392 ∧ k_ ≠ gb399)) (HL416_7.out) (fun k_ hk => ⟨hk.1.1, ⟨hk.1.2.1, ⟨hk.1.2.2.1, ⟨hk.1.2.2.2.1, ⟨hk.2, ⟨hk.1.2.2.2.2.1, hk.1.2.2.2.2.2⟩⟩⟩⟩⟩⟩))).2.1 (Kd.V_F (Kd.V_mono (ok' := (fun k_ => (P1_ k_ ∨ w.heap.size ≤ k_) ∧ some k_ ≠ (.slice (some ad407) t404.length co29 : Value).ownBlock ∧ some k_ ≠ (.slice Ao31 x400007_1.length co31 : Value).ownBlock ∧ some k_ ≠ (.slice Ao36 y409.length co36 : Value).ownBlock ∧ some k_ ≠ (v413 : Value).ownBlock ∧ k_ ≠ gb392 ∧ k_ ≠ gb399)) (HL416_7.out) (fun k_ hk => ⟨hk.1.1, ⟨hk.1.2.1, ⟨hk.1.2.2.1, ⟨hk.1.2.2.2.1, ⟨hk.2, ⟨hk.1.2.2.2.2.1, hk.1.2.2.2.2.2⟩⟩⟩⟩⟩⟩))))) (Reps.none _ _)))
      intro v418 w37 ho38 hb hg_ hnew_
      have HS8_ := (hb.cell (World.block_lt_of_cell? _ _ (hHeld.2.2.2.2.2.2.2.2.1))).trans (hHeld.2.2.2.2.2.2.2.2.1)
      have HS10_ := (hb.cell (World.block_lt_of_cell? _ _ (hHeld.2.2.2.2.2.2.2.2.2.2.1))).trans (hHeld.2.2.2.2.2.2.2.2.2.2.1)
      have HS11_ := (hb.cell (World.block_lt_of_cell? _ _ (hHeld.2.2.2.2.2.2.2.2.2.2.2.1))).trans (hHeld.2.2.2.2.2.2.2.2.2.2.2.1)
      have HS12_ := (hb.cell (World.block_lt_of_cell? _ _ (hHeld.2.2.2.2.2.2.2.2.2.2.2.2.1))).trans (hHeld.2.2.2.2.2.2.2.2.2.2.2.2.1)
      have HS13_ := (hb.cell (World.block_lt_of_cell? _ _ (hHeld.2.2.2.2.2.2.2.2.2.2.2.2.2.1))).trans (hHeld.2.2.2.2.2.2.2.2.2.2.2.2.2.1)
      have HS14_ := (hb.cell (World.block_lt_of_cell? _ _ (hHeld.2.2.2.2.2.2.2.2.2.2.2.2.2.2.1))).trans (hHeld.2.2.2.2.2.2.2.2.2.2.2.2.2.2.1)
      have HS15_ := (hb.cell (World.block_lt_of_cell? _ _ (hHeld.2.2.2.2.2.2.2.2.2.2.2.2.2.2.2.1))).trans (hHeld.2.2.2.2.2.2.2.2.2.2.2.2.2.2.2.1)
      have HS16_ := (hb.cell (World.block_lt_of_cell? _ _ (hHeld.2.2.2.2.2.2.2.2.2.2.2.2.2.2.2.2.1))).trans (hHeld.2.2.2.2.2.2.2.2.2.2.2.2.2.2.2.2.1)
      have HS17_ := (hb.cell (World.block_lt_of_cell? _ _ (hHeld.2.2.2.2.2.2.2.2.2.2.2.2.2.2.2.2.2.1))).trans (hHeld.2.2.2.2.2.2.2.2.2.2.2.2.2.2.2.2.2.1)
      have HS18_ := (hb.cell (World.block_lt_of_cell? _ _ (hHeld.2.2.2.2.2.2.2.2.2.2.2.2.2.2.2.2.2.2))).trans (hHeld.2.2.2.2.2.2.2.2.2.2.2.2.2.2.2.2.2.2)
      clear hg_ hnew_
      (first | rw [← Ny417.out] at ho38 | (simp only [Int.reduceToNat] at ho38; rw [← Ny417.out] at ho38))
      have n0_ := Aside0.mk (Kd.V_elder' (by (with_reducible repeat (first | apply Kd.V_alloc | apply Kd.V_drewN | apply Kd.V_drew)); exact HO_1.out) (Kd.N_base ho38) hb)
      have n1_ := Aside0.mk (Kd.R_below (by (with_reducible repeat (first | apply Kd.R_alloc | apply Kd.R_drewN | apply Kd.R_drew)); exact HO_11.out) hb)
      have n2_ := Aside0.mk (Kd.N_elder' (by (with_reducible repeat (first | apply Kd.N_alloc | apply Kd.N_drewN | apply Kd.N_drew)); exact HO_400007.out) (Kd.N_base ho38) hb)
      have n3_ := Aside0.mk (Kd.V_elder' (by (with_reducible repeat (first | apply Kd.V_alloc | apply Kd.V_drewN | apply Kd.V_drew)); exact HL416_3.out) (Kd.N_base ho38) hb)
      have n4_ := Aside0.mk (Kd.V_elder' (by (with_reducible repeat (first | apply Kd.V_alloc | apply Kd.V_drewN | apply Kd.V_drew)); exact HL416_6.out) (Kd.N_base ho38) hb)
      have n5_ := Aside0.mk (Kd.V_elder' (by (with_reducible repeat (first | apply Kd.V_alloc | apply Kd.V_drewN | apply Kd.V_drew)); exact HL416_7.out) (Kd.N_base ho38) hb)
      have n6_ := Aside0.mk (Kd.R_below (by (with_reducible repeat (first | apply Kd.R_alloc | apply Kd.R_drewN | apply Kd.R_drew)); exact HO411.out) hb)
      have n7_ := Aside0.mk (Kd.R_below (by (with_reducible repeat (first | apply Kd.R_alloc | apply Kd.R_drewN | apply Kd.R_drew)); exact HO414.out) hb)
      have n8_ := Aside0.mk (Kd.N_lower ho38 (below_size (by repeat (first | (with_reducible first | exact HB.out | apply below_alloc | apply pw_below_drewN | apply below_drew1 | refine below_set ?_ GE392.out | refine below_set ?_ GE399.out) | exact HB.out))))
      have n9_ := Aside0.mk (blk_below (g := gb392) (o := .cells #[.int .i64 0, .bool false, .bool false, .slice none 0 0, .int .i64 0, .string (⟨#[]⟩ : ByteArray), .slice none 0 0, .slice none 0 0] 50 (0, 0)) (by (with_reducible repeat (first | refine blk_drewN ?_ _ | refine blk_drew ?_ | refine blk_alloc ?_ _)); exact BK392.out) hb)
      have n10_ := Aside0.mk (blk_below (g := gb399) (o := .cells #[.int .i64 7, .bool false, .bool false, .slice none 0 0, .int .i64 0, .string (⟨#[]⟩ : ByteArray), .slice Ao30 x400006_1.length co30, .slice Ao31 x400007_1.length co31] 50 (0, 0)) (by (with_reducible repeat (first | refine blk_drewN ?_ _ | refine blk_drew ?_ | refine blk_alloc ?_ _)); exact BK399.out) hb)
      have n11_ := Aside0.mk (below_step (by repeat (first | (with_reducible first | exact HB.out | apply below_alloc | apply pw_below_drewN | apply below_drew1 | refine below_set ?_ GE392.out | refine below_set ?_ GE399.out) | exact HB.out)) hb)
      clear HO_1
      clear HO_11
      clear HO_400007
      clear HL416_3
      clear HL416_6
      clear HL416_7
      clear HO411
      clear HO414
      clear BK392
      clear BK399
      clear HB
      have HO_1 := n0_
      have HO_11 := n1_
      have HO_400007 := n2_
      have HL416_3 := n3_
      have HL416_6 := n4_
      have HL416_7 := n5_
      have HO411 := n6_
      have HO414 := n7_
      have HO419 := n8_
      have BK392 := n9_
      have BK399 := n10_
      have HB := n11_
      clear n0_ n1_ n2_ n3_ n4_ n5_ n6_ n7_ n8_ n9_ n10_ n11_
      clear hb ho38
      refine hK.out _ _ ⟨(blk_cell BK399.out 0).trans rfl, (blk_cell BK399.out 1).trans rfl, (blk_cell BK399.out 2).trans rfl, (blk_cell BK399.out 3).trans rfl, (blk_cell BK399.out 4).trans rfl, (blk_cell BK399.out 5).trans rfl, (blk_cell BK399.out 6).trans rfl, (blk_cell BK399.out 7).trans rfl, HS8_, ((HB.out.cell (World.block_lt_of_cell? w _ hw408_0)).trans hw408_0), HS10_, HS11_, HS12_, HS13_, HS14_, HS15_, HS16_, HS17_, HS18_⟩ (fun hHeld => ?_)
      clear hK K
      refine norm_ (a' := ?_) ?_ ?_
      rotate_left
      ·show Act.put _ (some 59) _ = _
       simp only [Act.put, s0_, s1_, s2_, i64_w, i32_w]
       rfl
      exact norm_ (by simp only [putAll, Act.put, s0_, s1_, s2_]) (hCont (.slice Ao36 y409.length co36, v413, v418) _ ⟨hHeld, (by (with_reducible repeat (first | apply Kd.V_alloc | apply Kd.V_drewN | apply Kd.V_drew)); exact Kd.V_mono HL416_3.out (fun _ hk => ⟨hk.1.1.1, ⟨hk.1.1.2.2.2.1, ⟨hk.1.2, ⟨hk.2, ⟨hk.1.1.2.1, ⟨hk.1.1.2.2.1, ⟨hk.1.1.2.2.2.2.1, hk.1.1.2.2.2.2.2⟩⟩⟩⟩⟩⟩⟩)), (by (with_reducible repeat (first | apply Kd.V_alloc | apply Kd.V_drewN | apply Kd.V_drew)); exact Kd.V_mono HL416_6.out (fun _ hk => ⟨hk.1.1.1, ⟨hk.1.1.2.2.2.1, ⟨hk.1.2, ⟨hk.2, ⟨hk.1.1.2.1, ⟨hk.1.1.2.2.1, ⟨hk.1.1.2.2.2.2.1, hk.1.1.2.2.2.2.2⟩⟩⟩⟩⟩⟩⟩)), (by (with_reducible repeat (first | apply Kd.V_alloc | apply Kd.V_drewN | apply Kd.V_drew)); exact Kd.V_mono HL416_7.out (fun _ hk => ⟨hk.1.1.1, ⟨hk.1.1.2.2.2.1, ⟨hk.1.2, ⟨hk.2, ⟨hk.1.1.2.1, ⟨hk.1.1.2.2.1, ⟨hk.1.1.2.2.2.2.1, hk.1.1.2.2.2.2.2⟩⟩⟩⟩⟩⟩⟩)), (by (with_reducible repeat (first | apply Kd.R_alloc | apply Kd.R_drewN | apply Kd.R_drew)); exact HO411.out), (by (with_reducible repeat (first | apply Kd.R_alloc | apply Kd.R_drewN | apply Kd.R_drew)); exact HO414.out), (by (with_reducible repeat (first | apply Kd.N_alloc | apply Kd.N_drewN | apply Kd.N_drew)); exact Kd.N_mono HO419.out (fun _ hk => ⟨hk.1, ⟨hk.2.2.2.1, ⟨hk.2.2.2.2.1, ⟨hk.2.1, ⟨hk.2.2.1, ⟨hk.2.2.2.2.2.1, hk.2.2.2.2.2.2⟩⟩⟩⟩⟩⟩)), (by (with_reducible repeat (first | apply Kd.V_alloc | apply Kd.V_drewN | apply Kd.V_drew)); exact Kd.V_mono HO_1.out (fun _ hk => ⟨hk.1.1.1, ⟨hk.1.1.2.2.2.1, ⟨hk.1.2, ⟨hk.2, ⟨hk.1.1.2.1, ⟨hk.1.1.2.2.1, ⟨hk.1.1.2.2.2.2.1, hk.1.1.2.2.2.2.2⟩⟩⟩⟩⟩⟩⟩)), (by (with_reducible repeat (first | apply Kd.R_alloc | apply Kd.R_drewN | apply Kd.R_drew)); exact HO_11.out), (by (with_reducible repeat (first | apply Kd.N_alloc | apply Kd.N_drewN | apply Kd.N_drew)); exact Kd.N_mono HO_400007.out (fun _ hk => ⟨hk.1.1.1, ⟨hk.1.1.2.2.1, ⟨hk.1.2, ⟨hk.2, ⟨hk.1.1.2.1, ⟨hk.1.1.2.2.2.1, hk.1.1.2.2.2.2⟩⟩⟩⟩⟩⟩)), (by (with_reducible repeat (first | refine blk_drewN ?_ _ | refine blk_drew ?_ | refine blk_alloc ?_ _)); exact BK392.out), (by (with_reducible repeat (first | refine blk_drewN ?_ _ | refine blk_drew ?_ | refine blk_alloc ?_ _)); exact BK399.out), (by repeat (first | (with_reducible first | exact HB.out | apply below_alloc | apply pw_below_drewN | apply below_drew1 | refine below_set ?_ GE392.out | refine below_set ?_ GE399.out) | exact HB.out))⟩)
     ·skip
      refine Kd.N_lit_step k50 _ 50 ?hg (N' := 59) ?hd (xs := ([(⟨(rd_T50 l1 (rd t404 x12_1)).f0, (rd_T50 l1 (rd t404 x12_1)).f1, (⟨(rd_T50 l1 (rd t404 x12_1)).f2.f0, (rd_T50 l1 (rd t404 x12_1)).f2.f1, (rd_T50 l1 (rd t404 x12_1)).f2.f2⟩ : S48), (rd_T50 l1 (rd t404 x12_1)).f3, (rd_T50 l1 (rd t404 x12_1)).f4, (rd_T50 l1 (rd t404 x12_1)).f5⟩ : S50)] : List (S50))) (inner := [.int .i64 ((rd_T50 l1 (rd t404 x12_1)).f0), .bool ((rd_T50 l1 (rd t404 x12_1)).f1), .bool ((rd_T50 l1 (rd t404 x12_1)).f2.f0), .slice A416_3 ((rd_T50 l1 (rd t404 x12_1)).f2.f1).length c416_3, .int .i64 ((rd_T50 l1 (rd t404 x12_1)).f2.f2), .string ((rd_T50 l1 (rd t404 x12_1)).f3), .slice A416_6 ((rd_T50 l1 (rd t404 x12_1)).f4).length c416_6, .slice A416_7 ((rd_T50 l1 (rd t404 x12_1)).f5).length c416_7]) (ok := (fun k_ => (P1_ k_ ∨ w.heap.size ≤ k_) ∧ some k_ ≠ (.slice (some ad407) t404.length co29 : Value).ownBlock ∧ some k_ ≠ (.slice Ao30 x400006_1.length co30 : Value).ownBlock ∧ some k_ ≠ (.slice Ao31 x400007_1.length co31 : Value).ownBlock ∧ some k_ ≠ (.slice Ao36 y409.length co36 : Value).ownBlock ∧ k_ ≠ gb392 ∧ k_ ≠ gb399)) (okp := (fun k_ => (P1_ k_ ∨ w.heap.size ≤ k_) ∧ some k_ ≠ (.slice (some ad407) t404.length co29 : Value).ownBlock ∧ some k_ ≠ (.slice Ao30 x400006_1.length co30 : Value).ownBlock ∧ some k_ ≠ (.slice Ao31 x400007_1.length co31 : Value).ownBlock ∧ some k_ ≠ (.slice Ao36 y409.length co36 : Value).ownBlock ∧ k_ ≠ gb392 ∧ k_ ≠ gb399)) ?hr ?hp (fun _ hk => hk) ((show ∀ k_, w33.heap.size ≤ k_ → (fun k_ => (P1_ k_ ∨ w.heap.size ≤ k_) ∧ some k_ ≠ (.slice (some ad407) t404.length co29 : Value).ownBlock ∧ some k_ ≠ (.slice Ao30 x400006_1.length co30 : Value).ownBlock ∧ some k_ ≠ (.slice Ao31 x400007_1.length co31 : Value).ownBlock ∧ some k_ ≠ (.slice Ao36 y409.length co36 : Value).ownBlock ∧ k_ ≠ gb392 ∧ k_ ≠ gb399) k_ from fun k_ hk => ⟨(.inr (Nat.le_trans (below_size (by repeat (first | (with_reducible first | exact HB.out | apply below_alloc | apply pw_below_drewN | apply below_drew1 | refine below_set ?_ GE392.out | refine below_set ?_ GE399.out) | exact HB.out))) hk)), Kd.fresh' (Kd.R_lt (by (with_reducible repeat (first | apply Kd.R_alloc | apply Kd.R_drewN | apply Kd.R_drew)); exact HO_11.out)) k_ hk, Kd.fresh' (Kd.R_lt (by (with_reducible repeat (first | apply Kd.R_alloc | apply Kd.R_drewN | apply Kd.R_drew)); exact HO_400006.out)) k_ hk, Kd.fresh' (Kd.N_lt (by (with_reducible repeat (first | apply Kd.N_alloc | apply Kd.N_drewN | apply Kd.N_drew)); exact HO_400007.out)) k_ hk, Kd.fresh' (Kd.R_lt (by (with_reducible repeat (first | apply Kd.R_alloc | apply Kd.R_drewN | apply Kd.R_drew)); exact HO411.out)) k_ hk, Kd.freshB (g := gb392) (o := .cells #[.int .i64 0, .bool false, .bool false, .slice none 0 0, .int .i64 0, .string (⟨#[]⟩ : ByteArray), .slice none 0 0, .slice none 0 0] 50 (0, 0)) (by (with_reducible repeat (first | refine blk_drewN ?_ _ | refine blk_drew ?_ | refine blk_alloc ?_ _)); exact BK392.out) k_ hk, Kd.freshB (g := gb399) (o := .cells #[.int .i64 7, .bool false, .bool false, .slice none 0 0, .int .i64 0, .string (⟨#[]⟩ : ByteArray), .slice Ao30 x400006_1.length co30, .slice Ao31 x400007_1.length co31] 50 (0, 0)) (by (with_reducible repeat (first | refine blk_drewN ?_ _ | refine blk_drew ?_ | refine blk_alloc ?_ _)); exact BK399.out) k_ hk⟩) _ (Nat.le_refl _)) (Below.refl _ _) (Nat.le_refl _) (by simp) ?_; (case hd => rfl); (case hg => rfl); (case hr => first | (go_simp; done) | (go_simp; rfl)); (case hp => exact (Reps.c8 (show Kd.FK k50 _ _ (⟨(rd_T50 l1 (rd t404 x12_1)).f0, (rd_T50 l1 (rd t404 x12_1)).f1, (⟨(rd_T50 l1 (rd t404 x12_1)).f2.f0, (rd_T50 l1 (rd t404 x12_1)).f2.f1, (rd_T50 l1 (rd t404 x12_1)).f2.f2⟩ : S48), (rd_T50 l1 (rd t404 x12_1)).f3, (rd_T50 l1 (rd t404 x12_1)).f4, (rd_T50 l1 (rd t404 x12_1)).f5⟩ : S50) [.int .i64 ((rd_T50 l1 (rd t404 x12_1)).f0), .bool ((rd_T50 l1 (rd t404 x12_1)).f1), .bool ((rd_T50 l1 (rd t404 x12_1)).f2.f0), .slice A416_3 ((rd_T50 l1 (rd t404 x12_1)).f2.f1).length c416_3, .int .i64 ((rd_T50 l1 (rd t404 x12_1)).f2.f2), .string ((rd_T50 l1 (rd t404 x12_1)).f3), .slice A416_6 ((rd_T50 l1 (rd t404 x12_1)).f4).length c416_6, .slice A416_7 ((rd_T50 l1 (rd t404 x12_1)).f5).length c416_7] from (k50_mkF _ _ (⟨(rd_T50 l1 (rd t404 x12_1)).f0, (rd_T50 l1 (rd t404 x12_1)).f1, (⟨(rd_T50 l1 (rd t404 x12_1)).f2.f0, (rd_T50 l1 (rd t404 x12_1)).f2.f1, (rd_T50 l1 (rd t404 x12_1)).f2.f2⟩ : S48), (rd_T50 l1 (rd t404 x12_1)).f3, (rd_T50 l1 (rd t404 x12_1)).f4, (rd_T50 l1 (rd t404 x12_1)).f5⟩ : S50) (Kd.V_reads' (Kd.V_mono (ok' := (fun k_ => (P1_ k_ ∨ w.heap.size ≤ k_) ∧ some k_ ≠ (.slice (some ad407) t404.length co29 : Value).ownBlock ∧ some k_ ≠ (.slice Ao30 x400006_1.length co30 : Value).ownBlock ∧ some k_ ≠ (.slice Ao31 x400007_1.length co31 : Value).ownBlock ∧ some k_ ≠ (.slice Ao36 y409.length co36 : Value).ownBlock ∧ k_ ≠ gb392 ∧ k_ ≠ gb399)) (HL416_3.out) (fun k_ hk => ⟨hk.1.1, ⟨hk.1.2.1, ⟨hk.1.2.2.1, ⟨hk.1.2.2.2.1, ⟨hk.2, ⟨hk.1.2.2.2.2.1, hk.1.2.2.2.2.2⟩⟩⟩⟩⟩⟩))).2.1 (Kd.V_F (Kd.V_mono (ok' := (fun k_ => (P1_ k_ ∨ w.heap.size ≤ k_) ∧ some k_ ≠ (.slice (some ad407) t404.length co29 : Value).ownBlock ∧ some k_ ≠ (.slice Ao30 x400006_1.length co30 : Value).ownBlock ∧ some k_ ≠ (.slice Ao31 x400007_1.length co31 : Value).ownBlock ∧ some k_ ≠ (.slice Ao36 y409.length co36 : Value).ownBlock ∧ k_ ≠ gb392 ∧ k_ ≠ gb399)) (HL416_3.out) (fun k_ hk => ⟨hk.1.1, ⟨hk.1.2.1, ⟨hk.1.2.2.1, ⟨hk.1.2.2.2.1, ⟨hk.2, ⟨hk.1.2.2.2.2.1, hk.1.2.2.2.2.2⟩⟩⟩⟩⟩⟩))) (Kd.V_reads' (Kd.V_mono (ok' := (fun k_ => (P1_ k_ ∨ w.heap.size ≤ k_) ∧ some k_ ≠ (.slice (some ad407) t404.length co29 : Value).ownBlock ∧ some k_ ≠ (.slice Ao30 x400006_1.length co30 : Value).ownBlock ∧ some k_ ≠ (.slice Ao31 x400007_1.length co31 : Value).ownBlock ∧ some k_ ≠ (.slice Ao36 y409.length co36 : Value).ownBlock ∧ k_ ≠ gb392 ∧ k_ ≠ gb399)) (HL416_6.out) (fun k_ hk => ⟨hk.1.1, ⟨hk.1.2.1, ⟨hk.1.2.2.1, ⟨hk.1.2.2.2.1, ⟨hk.2, ⟨hk.1.2.2.2.2.1, hk.1.2.2.2.2.2⟩⟩⟩⟩⟩⟩))).2.1 (Kd.V_F (Kd.V_mono (ok' := (fun k_ => (P1_ k_ ∨ w.heap.size ≤ k_) ∧ some k_ ≠ (.slice (some ad407) t404.length co29 : Value).ownBlock ∧ some k_ ≠ (.slice Ao30 x400006_1.length co30 : Value).ownBlock ∧ some k_ ≠ (.slice Ao31 x400007_1.length co31 : Value).ownBlock ∧ some k_ ≠ (.slice Ao36 y409.length co36 : Value).ownBlock ∧ k_ ≠ gb392 ∧ k_ ≠ gb399)) (HL416_6.out) (fun k_ hk => ⟨hk.1.1, ⟨hk.1.2.1, ⟨hk.1.2.2.1, ⟨hk.1.2.2.2.1, ⟨hk.2, ⟨hk.1.2.2.2.2.1, hk.1.2.2.2.2.2⟩⟩⟩⟩⟩⟩))) (Kd.V_reads' (Kd.V_mono (ok' := (fun k_ => (P1_ k_ ∨ w.heap.size ≤ k_) ∧ some k_ ≠ (.slice (some ad407) t404.length co29 : Value).ownBlock ∧ some k_ ≠ (.slice Ao30 x400006_1.length co30 : Value).ownBlock ∧ some k_ ≠ (.slice Ao31 x400007_1.length co31 : Value).ownBlock ∧ some k_ ≠ (.slice Ao36 y409.length co36 : Value).ownBlock ∧ k_ ≠ gb392 ∧ k_ ≠ gb399)) (HL416_7.out) (fun k_ hk => ⟨hk.1.1, ⟨hk.1.2.1, ⟨hk.1.2.2.1, ⟨hk.1.2.2.2.1, ⟨hk.2, ⟨hk.1.2.2.2.2.1, hk.1.2.2.2.2.2⟩⟩⟩⟩⟩⟩))).2.1 (Kd.V_F (Kd.V_mono (ok' := (fun k_ => (P1_ k_ ∨ w.heap.size ≤ k_) ∧ some k_ ≠ (.slice (some ad407) t404.length co29 : Value).ownBlock ∧ some k_ ≠ (.slice Ao30 x400006_1.length co30 : Value).ownBlock ∧ some k_ ≠ (.slice Ao31 x400007_1.length co31 : Value).ownBlock ∧ some k_ ≠ (.slice Ao36 y409.length co36 : Value).ownBlock ∧ k_ ≠ gb392 ∧ k_ ≠ gb399)) (HL416_7.out) (fun k_ hk => ⟨hk.1.1, ⟨hk.1.2.1, ⟨hk.1.2.2.1, ⟨hk.1.2.2.2.1, ⟨hk.2, ⟨hk.1.2.2.2.2.1, hk.1.2.2.2.2.2⟩⟩⟩⟩⟩⟩))))) (Reps.none _ _)))
      intro v418 w35 ho36 hb hg_ hnew_
      have HS8_ := (hb.cell (World.block_lt_of_cell? _ _ (hHeld.2.2.2.2.2.2.2.2.1))).trans (hHeld.2.2.2.2.2.2.2.2.1)
      have HS10_ := (hb.cell (World.block_lt_of_cell? _ _ (hHeld.2.2.2.2.2.2.2.2.2.2.1))).trans (hHeld.2.2.2.2.2.2.2.2.2.2.1)
      have HS11_ := (hb.cell (World.block_lt_of_cell? _ _ (hHeld.2.2.2.2.2.2.2.2.2.2.2.1))).trans (hHeld.2.2.2.2.2.2.2.2.2.2.2.1)
      have HS12_ := (hb.cell (World.block_lt_of_cell? _ _ (hHeld.2.2.2.2.2.2.2.2.2.2.2.2.1))).trans (hHeld.2.2.2.2.2.2.2.2.2.2.2.2.1)
      have HS13_ := (hb.cell (World.block_lt_of_cell? _ _ (hHeld.2.2.2.2.2.2.2.2.2.2.2.2.2.1))).trans (hHeld.2.2.2.2.2.2.2.2.2.2.2.2.2.1)
      have HS14_ := (hb.cell (World.block_lt_of_cell? _ _ (hHeld.2.2.2.2.2.2.2.2.2.2.2.2.2.2.1))).trans (hHeld.2.2.2.2.2.2.2.2.2.2.2.2.2.2.1)
      have HS15_ := (hb.cell (World.block_lt_of_cell? _ _ (hHeld.2.2.2.2.2.2.2.2.2.2.2.2.2.2.2.1))).trans (hHeld.2.2.2.2.2.2.2.2.2.2.2.2.2.2.2.1)
      have HS16_ := (hb.cell (World.block_lt_of_cell? _ _ (hHeld.2.2.2.2.2.2.2.2.2.2.2.2.2.2.2.2.1))).trans (hHeld.2.2.2.2.2.2.2.2.2.2.2.2.2.2.2.2.1)
      have HS17_ := (hb.cell (World.block_lt_of_cell? _ _ (hHeld.2.2.2.2.2.2.2.2.2.2.2.2.2.2.2.2.2.1))).trans (hHeld.2.2.2.2.2.2.2.2.2.2.2.2.2.2.2.2.2.1)
      have HS18_ := (hb.cell (World.block_lt_of_cell? _ _ (hHeld.2.2.2.2.2.2.2.2.2.2.2.2.2.2.2.2.2.2))).trans (hHeld.2.2.2.2.2.2.2.2.2.2.2.2.2.2.2.2.2.2)
      clear hg_ hnew_
      (first | rw [← Ny417.out] at ho36 | (simp only [Int.reduceToNat] at ho36; rw [← Ny417.out] at ho36))
      have n0_ := Aside0.mk (Kd.V_elder' (by (with_reducible repeat (first | apply Kd.V_alloc | apply Kd.V_drewN | apply Kd.V_drew)); exact HO_1.out) (Kd.N_base ho36) hb)
      have n1_ := Aside0.mk (Kd.R_below (by (with_reducible repeat (first | apply Kd.R_alloc | apply Kd.R_drewN | apply Kd.R_drew)); exact HO_11.out) hb)
      have n2_ := Aside0.mk (Kd.R_below (by (with_reducible repeat (first | apply Kd.R_alloc | apply Kd.R_drewN | apply Kd.R_drew)); exact HO_400006.out) hb)
      have n3_ := Aside0.mk (Kd.N_elder' (by (with_reducible repeat (first | apply Kd.N_alloc | apply Kd.N_drewN | apply Kd.N_drew)); exact HO_400007.out) (Kd.N_base ho36) hb)
      have n4_ := Aside0.mk (Kd.V_elder' (by (with_reducible repeat (first | apply Kd.V_alloc | apply Kd.V_drewN | apply Kd.V_drew)); exact HL416_3.out) (Kd.N_base ho36) hb)
      have n5_ := Aside0.mk (Kd.V_elder' (by (with_reducible repeat (first | apply Kd.V_alloc | apply Kd.V_drewN | apply Kd.V_drew)); exact HL416_6.out) (Kd.N_base ho36) hb)
      have n6_ := Aside0.mk (Kd.V_elder' (by (with_reducible repeat (first | apply Kd.V_alloc | apply Kd.V_drewN | apply Kd.V_drew)); exact HL416_7.out) (Kd.N_base ho36) hb)
      have n7_ := Aside0.mk (Kd.R_below (by (with_reducible repeat (first | apply Kd.R_alloc | apply Kd.R_drewN | apply Kd.R_drew)); exact HO411.out) hb)
      have n8_ := Aside0.mk (Kd.N_lower ho36 (below_size (by repeat (first | (with_reducible first | exact HB.out | apply below_alloc | apply pw_below_drewN | apply below_drew1 | refine below_set ?_ GE392.out | refine below_set ?_ GE399.out) | exact HB.out))))
      have n9_ := Aside0.mk (blk_below (g := gb392) (o := .cells #[.int .i64 0, .bool false, .bool false, .slice none 0 0, .int .i64 0, .string (⟨#[]⟩ : ByteArray), .slice none 0 0, .slice none 0 0] 50 (0, 0)) (by (with_reducible repeat (first | refine blk_drewN ?_ _ | refine blk_drew ?_ | refine blk_alloc ?_ _)); exact BK392.out) hb)
      have n10_ := Aside0.mk (blk_below (g := gb399) (o := .cells #[.int .i64 7, .bool false, .bool false, .slice none 0 0, .int .i64 0, .string (⟨#[]⟩ : ByteArray), .slice Ao30 x400006_1.length co30, .slice Ao31 x400007_1.length co31] 50 (0, 0)) (by (with_reducible repeat (first | refine blk_drewN ?_ _ | refine blk_drew ?_ | refine blk_alloc ?_ _)); exact BK399.out) hb)
      have n11_ := Aside0.mk (Kd.C_below (by repeat (first | (with_reducible exact HR416_3.out) | (with_reducible refine Kd.C_alloc ?_ _) | (with_reducible refine Kd.C_drewN ?_ _) | (with_reducible refine Kd.C_drew ?_) | exact HR416_3.out)) hb)
      have n12_ := Aside0.mk (Kd.C_below (by repeat (first | (with_reducible exact HR416_6.out) | (with_reducible refine Kd.C_alloc ?_ _) | (with_reducible refine Kd.C_drewN ?_ _) | (with_reducible refine Kd.C_drew ?_) | exact HR416_6.out)) hb)
      have n13_ := Aside0.mk (Kd.C_below (by repeat (first | (with_reducible exact HR416_7.out) | (with_reducible refine Kd.C_alloc ?_ _) | (with_reducible refine Kd.C_drewN ?_ _) | (with_reducible refine Kd.C_drew ?_) | exact HR416_7.out)) hb)
      have n14_ := Aside0.mk (below_step (by repeat (first | (with_reducible first | exact HB.out | apply below_alloc | apply pw_below_drewN | apply below_drew1 | refine below_set ?_ GE392.out | refine below_set ?_ GE399.out) | exact HB.out)) hb)
      clear HO_1
      clear HO_11
      clear HO_400006
      clear HO_400007
      clear HL416_3
      clear HL416_6
      clear HL416_7
      clear HO411
      clear BK392
      clear BK399
      clear HR416_3
      clear HR416_6
      clear HR416_7
      clear HB
      have HO_1 := n0_
      have HO_11 := n1_
      have HO_400006 := n2_
      have HO_400007 := n3_
      have HL416_3 := n4_
      have HL416_6 := n5_
      have HL416_7 := n6_
      have HO411 := n7_
      have HO419 := n8_
      have BK392 := n9_
      have BK399 := n10_
      have HR416_3 := n11_
      have HR416_6 := n12_
      have HR416_7 := n13_
      have HB := n14_
      clear n0_ n1_ n2_ n3_ n4_ n5_ n6_ n7_ n8_ n9_ n10_ n11_ n12_ n13_ n14_
      clear hb ho36
      obtain ⟨Ao38, co38, eo38⟩ := Kd.R_slice HO411.out
      (first | subst eo38 | (injection eo38 with f1_ f2_ f3_; have f4_ := f1_.symm; have f5_ := f3_.symm; clear f1_ f2_ f3_; subst f4_; subst f5_))
      refine hK.out _ _ ⟨(blk_cell BK399.out 0).trans rfl, (blk_cell BK399.out 1).trans rfl, (blk_cell BK399.out 2).trans rfl, (blk_cell BK399.out 3).trans rfl, (blk_cell BK399.out 4).trans rfl, (blk_cell BK399.out 5).trans rfl, (blk_cell BK399.out 6).trans rfl, (blk_cell BK399.out 7).trans rfl, HS8_, ((HB.out.cell (World.block_lt_of_cell? w _ hw408_0)).trans hw408_0), HS10_, HS11_, HS12_, HS13_, HS14_, HS15_, HS16_, HS17_, HS18_⟩ (fun hHeld => ?_)
      clear hK K
      refine norm_ (a' := ?_) ?_ ?_
      rotate_left
      ·show Act.put _ (some 59) _ = _
       simp only [Act.put, s0_, s1_, s2_, i64_w, i32_w]
       rfl
      refine one_ (i := 10) (N := some 49) #[Y, Y, Y, Y, Y, Y, Y, Y, Y, Y, Y, Y, Y, Y, Y, Y, Y, Y, Y, Y, Y, Z, Z, Z, Z, Z] rfl rfl (one_of HT_.out (by kernel_rfl)) (by decide) (fun K hK => ?_)
      refine Kd.R_append_rows_step Kd.string (w0 := w) w.heap.size (by rfl) (.tmp 40) (.tmp 48) 35 9 (.string ⟨#[]⟩) 16 rfl Try.underlying35 info9 rfl (by decide) (by omega) (.slice Ao30 x400006_1.length co30) x400006_1 y409 _ _ _ (fun k_ => (w.heap.size ≤ k_) ∧ some k_ ≠ (.slice Ao38 y409.length co38 : Value).ownBlock) (fun _ => False) rfl rfl ?aO ?aR (fun _ _ h => h) (fun _ h => h.elim) ?aF ?aB ?aS ?aL ?_
      (case aR => repeat (first | exact (Kd.R_reads' HO411.out).2.2 | (with_reducible refine Kd.C_alloc ?_ _) | (with_reducible refine Kd.C_drewN ?_ _) | (with_reducible refine Kd.C_drew ?_)))
      (case aB => exact (by repeat (first | (with_reducible first | exact HB.out | apply below_alloc | apply pw_below_drewN | apply below_drew1 | refine below_set ?_ GE392.out | refine below_set ?_ GE399.out) | exact HB.out)))
      (case aF => exact (fun k_ hk => ⟨(Nat.le_trans (below_size (by repeat (first | (with_reducible first | exact HB.out | apply below_alloc | apply pw_below_drewN | apply below_drew1 | refine below_set ?_ GE392.out | refine below_set ?_ GE399.out) | exact HB.out))) hk), Kd.fresh' (Kd.R_lt (by (with_reducible repeat (first | apply Kd.R_alloc | apply Kd.R_drewN | apply Kd.R_drew)); exact HO411.out)) k_ hk⟩))
      (case aO => exact (by (with_reducible repeat (first | apply Kd.R_alloc | apply Kd.R_drewN | apply Kd.R_drew)); exact HO_400006.out))
      (case aS => exact (below_size (by repeat (first | (with_reducible first | exact HB.out | apply below_alloc | apply pw_below_drewN | apply below_drew1 | refine below_set ?_ GE392.out | refine below_set ?_ GE399.out) | exact HB.out))))
      (case aL => have := LMc26.out; omega)
      intro v413 w37 ho hb hg hat
      have HS8_ := cell_grown hg (hHeld.2.2.2.2.2.2.2.2.1) (by (first | rw [add_block] | (show some (Addr.add _ _).block ≠ _; rw [add_block]) | skip); first | (obtain ⟨_, hc_⟩ := Kd.R_typed HO_11.out _ rfl; first | exact Kd.R_ne HO_400006.out hc_ (by decide) | exact Kd.N_ne HO_400006.out hc_ (by decide)) | (have hc_ := Kd.F_in (Kd.V_F HO_11.out) rfl (by have a_ := of_eq_true p407; have b_ := of_eq_true q407; omega) (by decide); (try simp only [and_assoc] at hc_); repeat (first | (with_reducible exact hc_.1) | (with_reducible exact hc_) | replace hc_ := hc_.2)))
      have HS10_ := cell_grown hg (hHeld.2.2.2.2.2.2.2.2.2.2.1) (by (first | rw [add_block] | (show some (Addr.add _ _).block ≠ _; rw [add_block]) | skip); first | (obtain ⟨_, hc_⟩ := Kd.R_typed HO_11.out _ rfl; first | exact Kd.R_ne HO_400006.out hc_ (by decide) | exact Kd.N_ne HO_400006.out hc_ (by decide)) | (have hc_ := Kd.F_in (Kd.V_F HO_11.out) rfl (by have a_ := of_eq_true p415; have b_ := of_eq_true q415; omega) (by decide); (try simp only [and_assoc] at hc_); repeat (first | (with_reducible exact hc_.1) | (with_reducible exact hc_) | replace hc_ := hc_.2)))
      have HS11_ := cell_grown hg (hHeld.2.2.2.2.2.2.2.2.2.2.2.1) (by (first | rw [add_block] | (show some (Addr.add _ _).block ≠ _; rw [add_block]) | skip); first | (obtain ⟨_, hc_⟩ := Kd.R_typed HO_1.out _ rfl; first | exact Kd.R_ne HO_400006.out hc_ (by decide) | exact Kd.N_ne HO_400006.out hc_ (by decide)) | (have hc_ := Kd.F_in (Kd.V_F HO_1.out) rfl (by have a_ := of_eq_true p416; have b_ := of_eq_true q416; omega) (by decide); (try simp only [and_assoc] at hc_); repeat (first | (with_reducible exact hc_.1) | (with_reducible exact hc_) | replace hc_ := hc_.2)))
      have HS12_ := cell_grown hg (hHeld.2.2.2.2.2.2.2.2.2.2.2.2.1) (by (first | rw [add_block] | (show some (Addr.add _ _).block ≠ _; rw [add_block]) | skip); first | (obtain ⟨_, hc_⟩ := Kd.R_typed HO_1.out _ rfl; first | exact Kd.R_ne HO_400006.out hc_ (by decide) | exact Kd.N_ne HO_400006.out hc_ (by decide)) | (have hc_ := Kd.F_in (Kd.V_F HO_1.out) rfl (by have a_ := of_eq_true p416; have b_ := of_eq_true q416; omega) (by decide); (try simp only [and_assoc] at hc_); repeat (first | (with_reducible exact hc_.1) | (with_reducible exact hc_) | replace hc_ := hc_.2)))
      have HS13_ := cell_grown hg (hHeld.2.2.2.2.2.2.2.2.2.2.2.2.2.1) (by (first | rw [add_block] | (show some (Addr.add _ _).block ≠ _; rw [add_block]) | skip); first | (obtain ⟨_, hc_⟩ := Kd.R_typed HO_1.out _ rfl; first | exact Kd.R_ne HO_400006.out hc_ (by decide) | exact Kd.N_ne HO_400006.out hc_ (by decide)) | (have hc_ := Kd.F_in (Kd.V_F HO_1.out) rfl (by have a_ := of_eq_true p416; have b_ := of_eq_true q416; omega) (by decide); (try simp only [and_assoc] at hc_); repeat (first | (with_reducible exact hc_.1) | (with_reducible exact hc_) | replace hc_ := hc_.2)))
      have HS14_ := cell_grown hg (hHeld.2.2.2.2.2.2.2.2.2.2.2.2.2.2.1) (by (first | rw [add_block] | (show some (Addr.add _ _).block ≠ _; rw [add_block]) | skip); first | (obtain ⟨_, hc_⟩ := Kd.R_typed HO_1.out _ rfl; first | exact Kd.R_ne HO_400006.out hc_ (by decide) | exact Kd.N_ne HO_400006.out hc_ (by decide)) | (have hc_ := Kd.F_in (Kd.V_F HO_1.out) rfl (by have a_ := of_eq_true p416; have b_ := of_eq_true q416; omega) (by decide); (try simp only [and_assoc] at hc_); repeat (first | (with_reducible exact hc_.1) | (with_reducible exact hc_) | replace hc_ := hc_.2)))
      have HS15_ := cell_grown hg (hHeld.2.2.2.2.2.2.2.2.2.2.2.2.2.2.2.1) (by (first | rw [add_block] | (show some (Addr.add _ _).block ≠ _; rw [add_block]) | skip); first | (obtain ⟨_, hc_⟩ := Kd.R_typed HO_1.out _ rfl; first | exact Kd.R_ne HO_400006.out hc_ (by decide) | exact Kd.N_ne HO_400006.out hc_ (by decide)) | (have hc_ := Kd.F_in (Kd.V_F HO_1.out) rfl (by have a_ := of_eq_true p416; have b_ := of_eq_true q416; omega) (by decide); (try simp only [and_assoc] at hc_); repeat (first | (with_reducible exact hc_.1) | (with_reducible exact hc_) | replace hc_ := hc_.2)))
      have HS16_ := cell_grown hg (hHeld.2.2.2.2.2.2.2.2.2.2.2.2.2.2.2.2.1) (by (first | rw [add_block] | (show some (Addr.add _ _).block ≠ _; rw [add_block]) | skip); first | (obtain ⟨_, hc_⟩ := Kd.R_typed HO_1.out _ rfl; first | exact Kd.R_ne HO_400006.out hc_ (by decide) | exact Kd.N_ne HO_400006.out hc_ (by decide)) | (have hc_ := Kd.F_in (Kd.V_F HO_1.out) rfl (by have a_ := of_eq_true p416; have b_ := of_eq_true q416; omega) (by decide); (try simp only [and_assoc] at hc_); repeat (first | (with_reducible exact hc_.1) | (with_reducible exact hc_) | replace hc_ := hc_.2)))
      have HS17_ := cell_grown hg (hHeld.2.2.2.2.2.2.2.2.2.2.2.2.2.2.2.2.2.1) (by (first | rw [add_block] | (show some (Addr.add _ _).block ≠ _; rw [add_block]) | skip); first | (obtain ⟨_, hc_⟩ := Kd.R_typed HO_1.out _ rfl; first | exact Kd.R_ne HO_400006.out hc_ (by decide) | exact Kd.N_ne HO_400006.out hc_ (by decide)) | (have hc_ := Kd.F_in (Kd.V_F HO_1.out) rfl (by have a_ := of_eq_true p416; have b_ := of_eq_true q416; omega) (by decide); (try simp only [and_assoc] at hc_); repeat (first | (with_reducible exact hc_.1) | (with_reducible exact hc_) | replace hc_ := hc_.2)))
      have HS18_ := cell_grown hg (hHeld.2.2.2.2.2.2.2.2.2.2.2.2.2.2.2.2.2.2) (by (first | rw [add_block] | (show some (Addr.add _ _).block ≠ _; rw [add_block]) | skip); first | (obtain ⟨_, hc_⟩ := Kd.R_typed HO_1.out _ rfl; first | exact Kd.R_ne HO_400006.out hc_ (by decide) | exact Kd.N_ne HO_400006.out hc_ (by decide)) | (have hc_ := Kd.F_in (Kd.V_F HO_1.out) rfl (by have a_ := of_eq_true p416; have b_ := of_eq_true q416; omega) (by decide); (try simp only [and_assoc] at hc_); repeat (first | (with_reducible exact hc_.1) | (with_reducible exact hc_) | replace hc_ := hc_.2)))
      rw [← Ny412.out] at ho
      have n0_ := Aside0.mk (Kd.V_afterv (ok := (fun k_ => (P1_ k_ ∨ w.heap.size ≤ k_) ∧ some k_ ≠ (.slice (some ad407) t404.length co29 : Value).ownBlock ∧ some k_ ≠ (.slice Ao31 x400007_1.length co31 : Value).ownBlock ∧ some k_ ≠ (.slice Ao38 y409.length co38 : Value).ownBlock ∧ some k_ ≠ (v418 : Value).ownBlock ∧ k_ ≠ gb392 ∧ k_ ≠ gb399)) (by (with_reducible repeat (first | apply Kd.V_alloc | apply Kd.V_drewN | apply Kd.V_drew)); exact Kd.V_mono HO_1.out (fun _ hk => ⟨⟨hk.1.1.1, ⟨hk.1.1.2.1, ⟨hk.1.1.2.2.2.1, ⟨hk.1.2, ⟨hk.2, ⟨hk.1.1.2.2.2.2.1, hk.1.1.2.2.2.2.2⟩⟩⟩⟩⟩⟩, hk.1.1.2.2.1⟩)) hg hat)
      have n1_ := Aside0.mk (Kd.R_over' (by (with_reducible repeat (first | apply Kd.R_alloc | apply Kd.R_drewN | apply Kd.R_drew)); exact HO_11.out) (Kd.R_typed (by (with_reducible repeat (first | apply Kd.R_alloc | apply Kd.R_drewN | apply Kd.R_drew)); exact HO_400006.out)) (by decide) hg)
      have n2_ := Aside0.mk (Kd.N_afterv (ok := (fun k_ => (P1_ k_ ∨ w.heap.size ≤ k_) ∧ some k_ ≠ (.slice (some ad407) t404.length co29 : Value).ownBlock ∧ some k_ ≠ (.slice Ao38 y409.length co38 : Value).ownBlock ∧ some k_ ≠ (v418 : Value).ownBlock ∧ k_ ≠ gb392 ∧ k_ ≠ gb399)) (by (with_reducible repeat (first | apply Kd.N_alloc | apply Kd.N_drewN | apply Kd.N_drew)); exact Kd.N_mono HO_400007.out (fun _ hk => ⟨⟨hk.1.1.1, ⟨hk.1.1.2.1, ⟨hk.1.2, ⟨hk.2, ⟨hk.1.1.2.2.2.1, hk.1.1.2.2.2.2⟩⟩⟩⟩⟩, hk.1.1.2.2.1⟩)) hg hat)
      have n3_ := Aside0.mk (blk_grown (g := gb392) (o := .cells #[.int .i64 0, .bool false, .bool false, .slice none 0 0, .int .i64 0, .string (⟨#[]⟩ : ByteArray), .slice none 0 0, .slice none 0 0] 50 (0, 0)) (by (with_reducible repeat (first | refine blk_drewN ?_ _ | refine blk_drew ?_ | refine blk_alloc ?_ _)); exact BK392.out) hg (Kd.R_ne HO_400006.out BK392.out (by decide)))
      have n4_ := Aside0.mk (blk_grown (g := gb399) (o := .cells #[.int .i64 7, .bool false, .bool false, .slice none 0 0, .int .i64 0, .string (⟨#[]⟩ : ByteArray), .slice Ao30 x400006_1.length co30, .slice Ao31 x400007_1.length co31] 50 (0, 0)) (by (with_reducible repeat (first | refine blk_drewN ?_ _ | refine blk_drew ?_ | refine blk_alloc ?_ _)); exact BK399.out) hg (Kd.R_ne HO_400006.out BK399.out (by decide)))
      have n5_ := Aside0.mk (Kd.V_afterv (ok := (fun k_ => (P1_ k_ ∨ w.heap.size ≤ k_) ∧ some k_ ≠ (.slice (some ad407) t404.length co29 : Value).ownBlock ∧ some k_ ≠ (.slice Ao31 x400007_1.length co31 : Value).ownBlock ∧ some k_ ≠ (.slice Ao38 y409.length co38 : Value).ownBlock ∧ some k_ ≠ (v418 : Value).ownBlock ∧ k_ ≠ gb392 ∧ k_ ≠ gb399)) (by (with_reducible repeat (first | apply Kd.V_alloc | apply Kd.V_drewN | apply Kd.V_drew)); exact Kd.V_mono HL416_3.out (fun _ hk => ⟨⟨hk.1.1.1, ⟨hk.1.1.2.1, ⟨hk.1.1.2.2.2.1, ⟨hk.1.2, ⟨hk.2, ⟨hk.1.1.2.2.2.2.1, hk.1.1.2.2.2.2.2⟩⟩⟩⟩⟩⟩, hk.1.1.2.2.1⟩)) hg hat)
      have n6_ := Aside0.mk (Kd.V_afterv (ok := (fun k_ => (P1_ k_ ∨ w.heap.size ≤ k_) ∧ some k_ ≠ (.slice (some ad407) t404.length co29 : Value).ownBlock ∧ some k_ ≠ (.slice Ao31 x400007_1.length co31 : Value).ownBlock ∧ some k_ ≠ (.slice Ao38 y409.length co38 : Value).ownBlock ∧ some k_ ≠ (v418 : Value).ownBlock ∧ k_ ≠ gb392 ∧ k_ ≠ gb399)) (by (with_reducible repeat (first | apply Kd.V_alloc | apply Kd.V_drewN | apply Kd.V_drew)); exact Kd.V_mono HL416_6.out (fun _ hk => ⟨⟨hk.1.1.1, ⟨hk.1.1.2.1, ⟨hk.1.1.2.2.2.1, ⟨hk.1.2, ⟨hk.2, ⟨hk.1.1.2.2.2.2.1, hk.1.1.2.2.2.2.2⟩⟩⟩⟩⟩⟩, hk.1.1.2.2.1⟩)) hg hat)
      have n7_ := Aside0.mk (Kd.V_afterv (ok := (fun k_ => (P1_ k_ ∨ w.heap.size ≤ k_) ∧ some k_ ≠ (.slice (some ad407) t404.length co29 : Value).ownBlock ∧ some k_ ≠ (.slice Ao31 x400007_1.length co31 : Value).ownBlock ∧ some k_ ≠ (.slice Ao38 y409.length co38 : Value).ownBlock ∧ some k_ ≠ (v418 : Value).ownBlock ∧ k_ ≠ gb392 ∧ k_ ≠ gb399)) (by (with_reducible repeat (first | apply Kd.V_alloc | apply Kd.V_drewN | apply Kd.V_drew)); exact Kd.V_mono HL416_7.out (fun _ hk => ⟨⟨hk.1.1.1, ⟨hk.1.1.2.1, ⟨hk.1.1.2.2.2.1, ⟨hk.1.2, ⟨hk.2, ⟨hk.1.1.2.2.2.2.1, hk.1.1.2.2.2.2.2⟩⟩⟩⟩⟩⟩, hk.1.1.2.2.1⟩)) hg hat)
      have n8_ := Aside0.mk (Kd.R_after (ok := (fun k_ => (w.heap.size ≤ k_))) (by (with_reducible repeat (first | apply Kd.R_alloc | apply Kd.R_drewN | apply Kd.R_drew)); exact Kd.R_mono HO411.out (fun _ hk => ⟨hk.1.1, hk.2⟩)) hg hat)
      have n9_ := Aside0.mk (Kd.N_afterv (ok := (fun k_ => (P1_ k_ ∨ w.heap.size ≤ k_) ∧ some k_ ≠ (.slice (some ad407) t404.length co29 : Value).ownBlock ∧ some k_ ≠ (.slice Ao31 x400007_1.length co31 : Value).ownBlock ∧ some k_ ≠ (.slice Ao38 y409.length co38 : Value).ownBlock ∧ k_ ≠ gb392 ∧ k_ ≠ gb399)) (by (with_reducible repeat (first | apply Kd.N_alloc | apply Kd.N_drewN | apply Kd.N_drew)); exact Kd.N_mono HO419.out (fun _ hk => ⟨⟨hk.1, ⟨hk.2.1, ⟨hk.2.2.2.1, ⟨hk.2.2.2.2.1, ⟨hk.2.2.2.2.2.1, hk.2.2.2.2.2.2⟩⟩⟩⟩⟩, hk.2.2.1⟩)) hg hat)
      have n10_ := Aside0.mk (hb)
      have n11_ := Aside0.mk (ho)
      clear HO_1
      clear HO_11
      clear HO_400007
      clear BK392
      clear BK399
      clear HL416_3
      clear HL416_6
      clear HL416_7
      clear HO411
      clear HO419
      clear HB
      clear HO_400006
      have HO_1 := n0_
      have HO_11 := n1_
      have HO_400007 := n2_
      have BK392 := n3_
      have BK399 := n4_
      have HL416_3 := n5_
      have HL416_6 := n6_
      have HL416_7 := n7_
      have HO411 := n8_
      have HO419 := n9_
      have HB := n10_
      have HO414 := n11_
      clear n0_ n1_ n2_ n3_ n4_ n5_ n6_ n7_ n8_ n9_ n10_ n11_
      clear ho hb hg hat
      refine hK.out _ _ ⟨(blk_cell BK399.out 0).trans rfl, (blk_cell BK399.out 1).trans rfl, (blk_cell BK399.out 2).trans rfl, (blk_cell BK399.out 3).trans rfl, (blk_cell BK399.out 4).trans rfl, (blk_cell BK399.out 5).trans rfl, (blk_cell BK399.out 6).trans rfl, (blk_cell BK399.out 7).trans rfl, HS8_, ((HB.out.cell (World.block_lt_of_cell? w _ hw408_0)).trans hw408_0), HS10_, HS11_, HS12_, HS13_, HS14_, HS15_, HS16_, HS17_, HS18_⟩ (fun hHeld => ?_)
      clear hK K
      refine norm_ (a' := ?_) ?_ ?_
      rotate_left
      ·show Act.put _ (some 49) _ = _
       simp only [Act.put, s0_, s1_, s2_, i64_w, i32_w]
       rfl
      refine pure_ (i := 22) (N := some 61) (v := ?_) (a' := ?_) #[Y, Y, Y, Y, Y, Y, Y, Y, Y, Y, Y, Y, Y, Y, Y, Y, Y, Y, Y, Y, Y, Z, Y, Z, Z, Z] rfl rfl (any_of HT_.out (by kernel_rfl)) (fun _ _ _ h => h) (Or.inl ⟨by rfl, ?_⟩) ?_ ?_
      rotate_left
      ·intro w'
       go_simp
       with_reducible rfl
      rotate_left
      ·simp only [Act.put, s0_, s1_, s2_, i64_w, i32_w]
       rfl
      exact norm_ (by simp only [putAll, Act.put, s0_, s1_, s2_]) (hCont (.slice Ao38 y409.length co38, v413, v418) _ ⟨hHeld, (by (with_reducible repeat (first | apply Kd.V_alloc | apply Kd.V_drewN | apply Kd.V_drew)); exact Kd.V_mono HL416_3.out (fun _ hk => ⟨hk.1.1, ⟨hk.1.2.2.2.1, ⟨hk.2, ⟨hk.1.2.2.2.2.1, ⟨hk.1.2.1, ⟨hk.1.2.2.1, ⟨hk.1.2.2.2.2.2.1, hk.1.2.2.2.2.2.2⟩⟩⟩⟩⟩⟩⟩)), (by (with_reducible repeat (first | apply Kd.V_alloc | apply Kd.V_drewN | apply Kd.V_drew)); exact Kd.V_mono HL416_6.out (fun _ hk => ⟨hk.1.1, ⟨hk.1.2.2.2.1, ⟨hk.2, ⟨hk.1.2.2.2.2.1, ⟨hk.1.2.1, ⟨hk.1.2.2.1, ⟨hk.1.2.2.2.2.2.1, hk.1.2.2.2.2.2.2⟩⟩⟩⟩⟩⟩⟩)), (by (with_reducible repeat (first | apply Kd.V_alloc | apply Kd.V_drewN | apply Kd.V_drew)); exact Kd.V_mono HL416_7.out (fun _ hk => ⟨hk.1.1, ⟨hk.1.2.2.2.1, ⟨hk.2, ⟨hk.1.2.2.2.2.1, ⟨hk.1.2.1, ⟨hk.1.2.2.1, ⟨hk.1.2.2.2.2.2.1, hk.1.2.2.2.2.2.2⟩⟩⟩⟩⟩⟩⟩)), (by (with_reducible repeat (first | apply Kd.R_alloc | apply Kd.R_drewN | apply Kd.R_drew)); exact HO411.out), (by (with_reducible repeat (first | apply Kd.R_alloc | apply Kd.R_drewN | apply Kd.R_drew)); exact HO414.out), (by (with_reducible repeat (first | apply Kd.N_alloc | apply Kd.N_drewN | apply Kd.N_drew)); exact Kd.N_mono HO419.out (fun _ hk => ⟨hk.1.1, ⟨hk.1.2.2.2.1, ⟨hk.2, ⟨hk.1.2.1, ⟨hk.1.2.2.1, ⟨hk.1.2.2.2.2.1, hk.1.2.2.2.2.2⟩⟩⟩⟩⟩⟩)), (by (with_reducible repeat (first | apply Kd.V_alloc | apply Kd.V_drewN | apply Kd.V_drew)); exact Kd.V_mono HO_1.out (fun _ hk => ⟨hk.1.1, ⟨hk.1.2.2.2.1, ⟨hk.2, ⟨hk.1.2.2.2.2.1, ⟨hk.1.2.1, ⟨hk.1.2.2.1, ⟨hk.1.2.2.2.2.2.1, hk.1.2.2.2.2.2.2⟩⟩⟩⟩⟩⟩⟩)), (by (with_reducible repeat (first | apply Kd.R_alloc | apply Kd.R_drewN | apply Kd.R_drew)); exact HO_11.out), (by (with_reducible repeat (first | apply Kd.N_alloc | apply Kd.N_drewN | apply Kd.N_drew)); exact Kd.N_mono HO_400007.out (fun _ hk => ⟨hk.1.1, ⟨hk.1.2.2.1, ⟨hk.2, ⟨hk.1.2.2.2.1, ⟨hk.1.2.1, ⟨hk.1.2.2.2.2.1, hk.1.2.2.2.2.2⟩⟩⟩⟩⟩⟩)), (by (with_reducible repeat (first | refine blk_drewN ?_ _ | refine blk_drew ?_ | refine blk_alloc ?_ _)); exact BK392.out), (by (with_reducible repeat (first | refine blk_drewN ?_ _ | refine blk_drew ?_ | refine blk_alloc ?_ _)); exact BK399.out), (by repeat (first | (with_reducible first | exact HB.out | apply below_alloc | apply pw_below_drewN | apply below_drew1 | refine below_set ?_ GE392.out | refine below_set ?_ GE399.out) | exact HB.out))⟩)
    ·skip
     refine Kd.N_lit_step k50 _ 50 ?hg (N' := 59) ?hd (xs := ([(⟨(rd_T50 l1 (rd t404 x12_1)).f0, (rd_T50 l1 (rd t404 x12_1)).f1, (⟨(rd_T50 l1 (rd t404 x12_1)).f2.f0, (rd_T50 l1 (rd t404 x12_1)).f2.f1, (rd_T50 l1 (rd t404 x12_1)).f2.f2⟩ : S48), (rd_T50 l1 (rd t404 x12_1)).f3, (rd_T50 l1 (rd t404 x12_1)).f4, (rd_T50 l1 (rd t404 x12_1)).f5⟩ : S50)] : List (S50))) (inner := [.int .i64 ((rd_T50 l1 (rd t404 x12_1)).f0), .bool ((rd_T50 l1 (rd t404 x12_1)).f1), .bool ((rd_T50 l1 (rd t404 x12_1)).f2.f0), .slice A416_3 ((rd_T50 l1 (rd t404 x12_1)).f2.f1).length c416_3, .int .i64 ((rd_T50 l1 (rd t404 x12_1)).f2.f2), .string ((rd_T50 l1 (rd t404 x12_1)).f3), .slice A416_6 ((rd_T50 l1 (rd t404 x12_1)).f4).length c416_6, .slice A416_7 ((rd_T50 l1 (rd t404 x12_1)).f5).length c416_7]) (ok := (fun k_ => (P1_ k_ ∨ w.heap.size ≤ k_) ∧ some k_ ≠ (.slice (some ad407) t404.length co29 : Value).ownBlock ∧ some k_ ≠ (.slice Ao30 x400006_1.length co30 : Value).ownBlock ∧ some k_ ≠ (.slice Ao31 x400007_1.length co31 : Value).ownBlock ∧ k_ ≠ gb392 ∧ k_ ≠ gb399)) (okp := (fun k_ => (P1_ k_ ∨ w.heap.size ≤ k_) ∧ some k_ ≠ (.slice (some ad407) t404.length co29 : Value).ownBlock ∧ some k_ ≠ (.slice Ao30 x400006_1.length co30 : Value).ownBlock ∧ some k_ ≠ (.slice Ao31 x400007_1.length co31 : Value).ownBlock ∧ k_ ≠ gb392 ∧ k_ ≠ gb399)) ?hr ?hp (fun _ hk => hk) ((show ∀ k_, w32.heap.size ≤ k_ → (fun k_ => (P1_ k_ ∨ w.heap.size ≤ k_) ∧ some k_ ≠ (.slice (some ad407) t404.length co29 : Value).ownBlock ∧ some k_ ≠ (.slice Ao30 x400006_1.length co30 : Value).ownBlock ∧ some k_ ≠ (.slice Ao31 x400007_1.length co31 : Value).ownBlock ∧ k_ ≠ gb392 ∧ k_ ≠ gb399) k_ from fun k_ hk => ⟨(.inr (Nat.le_trans (below_size (by repeat (first | (with_reducible first | exact HB.out | apply below_alloc | apply pw_below_drewN | apply below_drew1 | refine below_set ?_ GE392.out | refine below_set ?_ GE399.out) | exact HB.out))) hk)), Kd.fresh' (Kd.R_lt (by (with_reducible repeat (first | apply Kd.R_alloc | apply Kd.R_drewN | apply Kd.R_drew)); exact HO_11.out)) k_ hk, Kd.fresh' (Kd.R_lt (by (with_reducible repeat (first | apply Kd.R_alloc | apply Kd.R_drewN | apply Kd.R_drew)); exact HO_400006.out)) k_ hk, Kd.fresh' (Kd.N_lt (by (with_reducible repeat (first | apply Kd.N_alloc | apply Kd.N_drewN | apply Kd.N_drew)); exact HO_400007.out)) k_ hk, Kd.freshB (g := gb392) (o := .cells #[.int .i64 0, .bool false, .bool false, .slice none 0 0, .int .i64 0, .string (⟨#[]⟩ : ByteArray), .slice none 0 0, .slice none 0 0] 50 (0, 0)) (by (with_reducible repeat (first | refine blk_drewN ?_ _ | refine blk_drew ?_ | refine blk_alloc ?_ _)); exact BK392.out) k_ hk, Kd.freshB (g := gb399) (o := .cells #[.int .i64 7, .bool false, .bool false, .slice none 0 0, .int .i64 0, .string (⟨#[]⟩ : ByteArray), .slice Ao30 x400006_1.length co30, .slice Ao31 x400007_1.length co31] 50 (0, 0)) (by (with_reducible repeat (first | refine blk_drewN ?_ _ | refine blk_drew ?_ | refine blk_alloc ?_ _)); exact BK399.out) k_ hk⟩) _ (Nat.le_refl _)) (Below.refl _ _) (Nat.le_refl _) (by simp) ?_; (case hd => rfl); (case hg => rfl); (case hr => first | (go_simp; done) | (go_simp; rfl)); (case hp => exact (Reps.c8 (show Kd.FK k50 _ _ (⟨(rd_T50 l1 (rd t404 x12_1)).f0, (rd_T50 l1 (rd t404 x12_1)).f1, (⟨(rd_T50 l1 (rd t404 x12_1)).f2.f0, (rd_T50 l1 (rd t404 x12_1)).f2.f1, (rd_T50 l1 (rd t404 x12_1)).f2.f2⟩ : S48), (rd_T50 l1 (rd t404 x12_1)).f3, (rd_T50 l1 (rd t404 x12_1)).f4, (rd_T50 l1 (rd t404 x12_1)).f5⟩ : S50) [.int .i64 ((rd_T50 l1 (rd t404 x12_1)).f0), .bool ((rd_T50 l1 (rd t404 x12_1)).f1), .bool ((rd_T50 l1 (rd t404 x12_1)).f2.f0), .slice A416_3 ((rd_T50 l1 (rd t404 x12_1)).f2.f1).length c416_3, .int .i64 ((rd_T50 l1 (rd t404 x12_1)).f2.f2), .string ((rd_T50 l1 (rd t404 x12_1)).f3), .slice A416_6 ((rd_T50 l1 (rd t404 x12_1)).f4).length c416_6, .slice A416_7 ((rd_T50 l1 (rd t404 x12_1)).f5).length c416_7] from (k50_mkF _ _ (⟨(rd_T50 l1 (rd t404 x12_1)).f0, (rd_T50 l1 (rd t404 x12_1)).f1, (⟨(rd_T50 l1 (rd t404 x12_1)).f2.f0, (rd_T50 l1 (rd t404 x12_1)).f2.f1, (rd_T50 l1 (rd t404 x12_1)).f2.f2⟩ : S48), (rd_T50 l1 (rd t404 x12_1)).f3, (rd_T50 l1 (rd t404 x12_1)).f4, (rd_T50 l1 (rd t404 x12_1)).f5⟩ : S50) (Kd.V_reads' (Kd.V_mono (ok' := (fun k_ => (P1_ k_ ∨ w.heap.size ≤ k_) ∧ some k_ ≠ (.slice (some ad407) t404.length co29 : Value).ownBlock ∧ some k_ ≠ (.slice Ao30 x400006_1.length co30 : Value).ownBlock ∧ some k_ ≠ (.slice Ao31 x400007_1.length co31 : Value).ownBlock ∧ k_ ≠ gb392 ∧ k_ ≠ gb399)) (HL416_3.out) (fun k_ hk => ⟨hk.1, ⟨hk.2.1, ⟨hk.2.2.1, ⟨hk.2.2.2.1, ⟨hk.2.2.2.2.1, hk.2.2.2.2.2⟩⟩⟩⟩⟩))).2.1 (Kd.V_F (Kd.V_mono (ok' := (fun k_ => (P1_ k_ ∨ w.heap.size ≤ k_) ∧ some k_ ≠ (.slice (some ad407) t404.length co29 : Value).ownBlock ∧ some k_ ≠ (.slice Ao30 x400006_1.length co30 : Value).ownBlock ∧ some k_ ≠ (.slice Ao31 x400007_1.length co31 : Value).ownBlock ∧ k_ ≠ gb392 ∧ k_ ≠ gb399)) (HL416_3.out) (fun k_ hk => ⟨hk.1, ⟨hk.2.1, ⟨hk.2.2.1, ⟨hk.2.2.2.1, ⟨hk.2.2.2.2.1, hk.2.2.2.2.2⟩⟩⟩⟩⟩))) (Kd.V_reads' (Kd.V_mono (ok' := (fun k_ => (P1_ k_ ∨ w.heap.size ≤ k_) ∧ some k_ ≠ (.slice (some ad407) t404.length co29 : Value).ownBlock ∧ some k_ ≠ (.slice Ao30 x400006_1.length co30 : Value).ownBlock ∧ some k_ ≠ (.slice Ao31 x400007_1.length co31 : Value).ownBlock ∧ k_ ≠ gb392 ∧ k_ ≠ gb399)) (HL416_6.out) (fun k_ hk => ⟨hk.1, ⟨hk.2.1, ⟨hk.2.2.1, ⟨hk.2.2.2.1, ⟨hk.2.2.2.2.1, hk.2.2.2.2.2⟩⟩⟩⟩⟩))).2.1 (Kd.V_F (Kd.V_mono (ok' := (fun k_ => (P1_ k_ ∨ w.heap.size ≤ k_) ∧ some k_ ≠ (.slice (some ad407) t404.length co29 : Value).ownBlock ∧ some k_ ≠ (.slice Ao30 x400006_1.length co30 : Value).ownBlock ∧ some k_ ≠ (.slice Ao31 x400007_1.length co31 : Value).ownBlock ∧ k_ ≠ gb392 ∧ k_ ≠ gb399)) (HL416_6.out) (fun k_ hk => ⟨hk.1, ⟨hk.2.1, ⟨hk.2.2.1, ⟨hk.2.2.2.1, ⟨hk.2.2.2.2.1, hk.2.2.2.2.2⟩⟩⟩⟩⟩))) (Kd.V_reads' (Kd.V_mono (ok' := (fun k_ => (P1_ k_ ∨ w.heap.size ≤ k_) ∧ some k_ ≠ (.slice (some ad407) t404.length co29 : Value).ownBlock ∧ some k_ ≠ (.slice Ao30 x400006_1.length co30 : Value).ownBlock ∧ some k_ ≠ (.slice Ao31 x400007_1.length co31 : Value).ownBlock ∧ k_ ≠ gb392 ∧ k_ ≠ gb399)) (HL416_7.out) (fun k_ hk => ⟨hk.1, ⟨hk.2.1, ⟨hk.2.2.1, ⟨hk.2.2.2.1, ⟨hk.2.2.2.2.1, hk.2.2.2.2.2⟩⟩⟩⟩⟩))).2.1 (Kd.V_F (Kd.V_mono (ok' := (fun k_ => (P1_ k_ ∨ w.heap.size ≤ k_) ∧ some k_ ≠ (.slice (some ad407) t404.length co29 : Value).ownBlock ∧ some k_ ≠ (.slice Ao30 x400006_1.length co30 : Value).ownBlock ∧ some k_ ≠ (.slice Ao31 x400007_1.length co31 : Value).ownBlock ∧ k_ ≠ gb392 ∧ k_ ≠ gb399)) (HL416_7.out) (fun k_ hk => ⟨hk.1, ⟨hk.2.1, ⟨hk.2.2.1, ⟨hk.2.2.2.1, ⟨hk.2.2.2.2.1, hk.2.2.2.2.2⟩⟩⟩⟩⟩))))) (Reps.none _ _)))
     intro v418 w33 ho34 hb hg_ hnew_
     have HS8_ := (hb.cell (World.block_lt_of_cell? _ _ (hHeld.2.2.2.2.2.2.2.2.1))).trans (hHeld.2.2.2.2.2.2.2.2.1)
     have HS10_ := (hb.cell (World.block_lt_of_cell? _ _ (hHeld.2.2.2.2.2.2.2.2.2.2.1))).trans (hHeld.2.2.2.2.2.2.2.2.2.2.1)
     have HS11_ := (hb.cell (World.block_lt_of_cell? _ _ (hHeld.2.2.2.2.2.2.2.2.2.2.2.1))).trans (hHeld.2.2.2.2.2.2.2.2.2.2.2.1)
     have HS12_ := (hb.cell (World.block_lt_of_cell? _ _ (hHeld.2.2.2.2.2.2.2.2.2.2.2.2.1))).trans (hHeld.2.2.2.2.2.2.2.2.2.2.2.2.1)
     have HS13_ := (hb.cell (World.block_lt_of_cell? _ _ (hHeld.2.2.2.2.2.2.2.2.2.2.2.2.2.1))).trans (hHeld.2.2.2.2.2.2.2.2.2.2.2.2.2.1)
     have HS14_ := (hb.cell (World.block_lt_of_cell? _ _ (hHeld.2.2.2.2.2.2.2.2.2.2.2.2.2.2.1))).trans (hHeld.2.2.2.2.2.2.2.2.2.2.2.2.2.2.1)
     have HS15_ := (hb.cell (World.block_lt_of_cell? _ _ (hHeld.2.2.2.2.2.2.2.2.2.2.2.2.2.2.2.1))).trans (hHeld.2.2.2.2.2.2.2.2.2.2.2.2.2.2.2.1)
     have HS16_ := (hb.cell (World.block_lt_of_cell? _ _ (hHeld.2.2.2.2.2.2.2.2.2.2.2.2.2.2.2.2.1))).trans (hHeld.2.2.2.2.2.2.2.2.2.2.2.2.2.2.2.2.1)
     have HS17_ := (hb.cell (World.block_lt_of_cell? _ _ (hHeld.2.2.2.2.2.2.2.2.2.2.2.2.2.2.2.2.2.1))).trans (hHeld.2.2.2.2.2.2.2.2.2.2.2.2.2.2.2.2.2.1)
     have HS18_ := (hb.cell (World.block_lt_of_cell? _ _ (hHeld.2.2.2.2.2.2.2.2.2.2.2.2.2.2.2.2.2.2))).trans (hHeld.2.2.2.2.2.2.2.2.2.2.2.2.2.2.2.2.2.2)
     clear hg_ hnew_
     (first | rw [← Ny417.out] at ho34 | (simp only [Int.reduceToNat] at ho34; rw [← Ny417.out] at ho34))
     have n0_ := Aside0.mk (Kd.V_elder' (by (with_reducible repeat (first | apply Kd.V_alloc | apply Kd.V_drewN | apply Kd.V_drew)); exact HO_1.out) (Kd.N_base ho34) hb)
     have n1_ := Aside0.mk (Kd.R_below (by (with_reducible repeat (first | apply Kd.R_alloc | apply Kd.R_drewN | apply Kd.R_drew)); exact HO_11.out) hb)
     have n2_ := Aside0.mk (Kd.R_below (by (with_reducible repeat (first | apply Kd.R_alloc | apply Kd.R_drewN | apply Kd.R_drew)); exact HO_400006.out) hb)
     have n3_ := Aside0.mk (Kd.N_elder' (by (with_reducible repeat (first | apply Kd.N_alloc | apply Kd.N_drewN | apply Kd.N_drew)); exact HO_400007.out) (Kd.N_base ho34) hb)
     have n4_ := Aside0.mk (Kd.V_elder' (by (with_reducible repeat (first | apply Kd.V_alloc | apply Kd.V_drewN | apply Kd.V_drew)); exact HL416_3.out) (Kd.N_base ho34) hb)
     have n5_ := Aside0.mk (Kd.V_elder' (by (with_reducible repeat (first | apply Kd.V_alloc | apply Kd.V_drewN | apply Kd.V_drew)); exact HL416_6.out) (Kd.N_base ho34) hb)
     have n6_ := Aside0.mk (Kd.V_elder' (by (with_reducible repeat (first | apply Kd.V_alloc | apply Kd.V_drewN | apply Kd.V_drew)); exact HL416_7.out) (Kd.N_base ho34) hb)
     have n7_ := Aside0.mk (Kd.N_lower ho34 (below_size (by repeat (first | (with_reducible first | exact HB.out | apply below_alloc | apply pw_below_drewN | apply below_drew1 | refine below_set ?_ GE392.out | refine below_set ?_ GE399.out) | exact HB.out))))
     have n8_ := Aside0.mk (blk_below (g := gb392) (o := .cells #[.int .i64 0, .bool false, .bool false, .slice none 0 0, .int .i64 0, .string (⟨#[]⟩ : ByteArray), .slice none 0 0, .slice none 0 0] 50 (0, 0)) (by (with_reducible repeat (first | refine blk_drewN ?_ _ | refine blk_drew ?_ | refine blk_alloc ?_ _)); exact BK392.out) hb)
     have n9_ := Aside0.mk (blk_below (g := gb399) (o := .cells #[.int .i64 7, .bool false, .bool false, .slice none 0 0, .int .i64 0, .string (⟨#[]⟩ : ByteArray), .slice Ao30 x400006_1.length co30, .slice Ao31 x400007_1.length co31] 50 (0, 0)) (by (with_reducible repeat (first | refine blk_drewN ?_ _ | refine blk_drew ?_ | refine blk_alloc ?_ _)); exact BK399.out) hb)
     have n10_ := Aside0.mk (Kd.C_below (by repeat (first | (with_reducible exact HR416_3.out) | (with_reducible refine Kd.C_alloc ?_ _) | (with_reducible refine Kd.C_drewN ?_ _) | (with_reducible refine Kd.C_drew ?_) | exact HR416_3.out)) hb)
     have n11_ := Aside0.mk (Kd.C_below (by repeat (first | (with_reducible exact HR416_6.out) | (with_reducible refine Kd.C_alloc ?_ _) | (with_reducible refine Kd.C_drewN ?_ _) | (with_reducible refine Kd.C_drew ?_) | exact HR416_6.out)) hb)
     have n12_ := Aside0.mk (Kd.C_below (by repeat (first | (with_reducible exact HR416_7.out) | (with_reducible refine Kd.C_alloc ?_ _) | (with_reducible refine Kd.C_drewN ?_ _) | (with_reducible refine Kd.C_drew ?_) | exact HR416_7.out)) hb)
     have n13_ := Aside0.mk (below_step (by repeat (first | (with_reducible first | exact HB.out | apply below_alloc | apply pw_below_drewN | apply below_drew1 | refine below_set ?_ GE392.out | refine below_set ?_ GE399.out) | exact HB.out)) hb)
     clear HO_1
     clear HO_11
     clear HO_400006
     clear HO_400007
     clear HL416_3
     clear HL416_6
     clear HL416_7
     clear BK392
     clear BK399
     clear HR416_3
     clear HR416_6
     clear HR416_7
     clear HB
     have HO_1 := n0_
     have HO_11 := n1_
     have HO_400006 := n2_
     have HO_400007 := n3_
     have HL416_3 := n4_
     have HL416_6 := n5_
     have HL416_7 := n6_
     have HO419 := n7_
     have BK392 := n8_
     have BK399 := n9_
     have HR416_3 := n10_
     have HR416_6 := n11_
     have HR416_7 := n12_
     have HB := n13_
     clear n0_ n1_ n2_ n3_ n4_ n5_ n6_ n7_ n8_ n9_ n10_ n11_ n12_ n13_
     clear hb ho34
     refine hK.out _ _ ⟨(blk_cell BK399.out 0).trans rfl, (blk_cell BK399.out 1).trans rfl, (blk_cell BK399.out 2).trans rfl, (blk_cell BK399.out 3).trans rfl, (blk_cell BK399.out 4).trans rfl, (blk_cell BK399.out 5).trans rfl, (blk_cell BK399.out 6).trans rfl, (blk_cell BK399.out 7).trans rfl, HS8_, ((HB.out.cell (World.block_lt_of_cell? w _ hw408_0)).trans hw408_0), HS10_, HS11_, HS12_, HS13_, HS14_, HS15_, HS16_, HS17_, HS18_⟩ (fun hHeld => ?_)
     clear hK K
     refine norm_ (a' := ?_) ?_ ?_
     rotate_left
     ·show Act.put _ (some 59) _ = _
      simp only [Act.put, s0_, s1_, s2_, i64_w, i32_w]
      rfl
     refine one_ (i := 9) (N := some 48) #[Y, Y, Y, Y, Y, Y, Y, Y, Y, Y, Z, Y, Y, Y, Y, Y, Y, Y, Y, Y, Y, Z, Z, Z, Z, Z] rfl rfl (one_of HT_.out (by kernel_rfl)) (by decide) (fun K hK => ?_)
     refine Kd.R_lit_step Kd.string _ 9 ?hg (N := 48) ?hd (xs := ([rdOf ByteArray.empty l0 (rd t404 x12_1)] : List ByteArray)) (inner := [.string (rdOf ByteArray.empty l0 (rd t404 x12_1))]) (ok := fun _ => True) (okp := fun _ => True) ?hr ?hp (fun _ hk => hk) trivial (Below.refl _ _) (Nat.le_refl _) (by simp) ?_; (case hd => rfl); (case hg => rfl); (case hr => first | (go_simp; done) | (go_simp; rfl)); (case hp => exact (Reps.one (show Kd.M Kd.string _ _ _ (rdOf ByteArray.empty l0 (rd t404 x12_1)) [.string (rdOf ByteArray.empty l0 (rd t404 x12_1))] from rfl) (Reps.none _ _)))
     intro v410 w35 ho36 hb hg_ hnew_
     have HS8_ := (hb.cell (World.block_lt_of_cell? _ _ (hHeld.2.2.2.2.2.2.2.2.1))).trans (hHeld.2.2.2.2.2.2.2.2.1)
     have HS10_ := (hb.cell (World.block_lt_of_cell? _ _ (hHeld.2.2.2.2.2.2.2.2.2.2.1))).trans (hHeld.2.2.2.2.2.2.2.2.2.2.1)
     have HS11_ := (hb.cell (World.block_lt_of_cell? _ _ (hHeld.2.2.2.2.2.2.2.2.2.2.2.1))).trans (hHeld.2.2.2.2.2.2.2.2.2.2.2.1)
     have HS12_ := (hb.cell (World.block_lt_of_cell? _ _ (hHeld.2.2.2.2.2.2.2.2.2.2.2.2.1))).trans (hHeld.2.2.2.2.2.2.2.2.2.2.2.2.1)
     have HS13_ := (hb.cell (World.block_lt_of_cell? _ _ (hHeld.2.2.2.2.2.2.2.2.2.2.2.2.2.1))).trans (hHeld.2.2.2.2.2.2.2.2.2.2.2.2.2.1)
     have HS14_ := (hb.cell (World.block_lt_of_cell? _ _ (hHeld.2.2.2.2.2.2.2.2.2.2.2.2.2.2.1))).trans (hHeld.2.2.2.2.2.2.2.2.2.2.2.2.2.2.1)
     have HS15_ := (hb.cell (World.block_lt_of_cell? _ _ (hHeld.2.2.2.2.2.2.2.2.2.2.2.2.2.2.2.1))).trans (hHeld.2.2.2.2.2.2.2.2.2.2.2.2.2.2.2.1)
     have HS16_ := (hb.cell (World.block_lt_of_cell? _ _ (hHeld.2.2.2.2.2.2.2.2.2.2.2.2.2.2.2.2.1))).trans (hHeld.2.2.2.2.2.2.2.2.2.2.2.2.2.2.2.2.1)
     have HS17_ := (hb.cell (World.block_lt_of_cell? _ _ (hHeld.2.2.2.2.2.2.2.2.2.2.2.2.2.2.2.2.2.1))).trans (hHeld.2.2.2.2.2.2.2.2.2.2.2.2.2.2.2.2.2.1)
     have HS18_ := (hb.cell (World.block_lt_of_cell? _ _ (hHeld.2.2.2.2.2.2.2.2.2.2.2.2.2.2.2.2.2.2))).trans (hHeld.2.2.2.2.2.2.2.2.2.2.2.2.2.2.2.2.2.2)
     clear hg_ hnew_
     (first | rw [← Ny409.out] at ho36 | (simp only [Int.reduceToNat] at ho36; rw [← Ny409.out] at ho36))
     have n0_ := Aside0.mk (Kd.V_elder' (by (with_reducible repeat (first | apply Kd.V_alloc | apply Kd.V_drewN | apply Kd.V_drew)); exact HO_1.out) (Kd.R_base ho36) hb)
     have n1_ := Aside0.mk (Kd.R_below (by (with_reducible repeat (first | apply Kd.R_alloc | apply Kd.R_drewN | apply Kd.R_drew)); exact HO_11.out) hb)
     have n2_ := Aside0.mk (Kd.R_elder' (by (with_reducible repeat (first | apply Kd.R_alloc | apply Kd.R_drewN | apply Kd.R_drew)); exact HO_400006.out) (Kd.R_base ho36) hb)
     have n3_ := Aside0.mk (Kd.N_elder' (by (with_reducible repeat (first | apply Kd.N_alloc | apply Kd.N_drewN | apply Kd.N_drew)); exact HO_400007.out) (Kd.R_base ho36) hb)
     have n4_ := Aside0.mk (Kd.V_elder' (by (with_reducible repeat (first | apply Kd.V_alloc | apply Kd.V_drewN | apply Kd.V_drew)); exact HL416_3.out) (Kd.R_base ho36) hb)
     have n5_ := Aside0.mk (Kd.V_elder' (by (with_reducible repeat (first | apply Kd.V_alloc | apply Kd.V_drewN | apply Kd.V_drew)); exact HL416_6.out) (Kd.R_base ho36) hb)
     have n6_ := Aside0.mk (Kd.V_elder' (by (with_reducible repeat (first | apply Kd.V_alloc | apply Kd.V_drewN | apply Kd.V_drew)); exact HL416_7.out) (Kd.R_base ho36) hb)
     have n7_ := Aside0.mk (Kd.N_elder' (by (with_reducible repeat (first | apply Kd.N_alloc | apply Kd.N_drewN | apply Kd.N_drew)); exact HO419.out) (Kd.R_base ho36) hb)
     have n8_ := Aside0.mk (Kd.R_lower (Kd.R_new' (Kd.R_newM (M := fun k_ => (w.heap.size ≤ k_)) ho36 (below_size (by repeat (first | (with_reducible first | exact HB.out | apply below_alloc | apply pw_below_drewN | apply below_drew1 | refine below_set ?_ GE392.out | refine below_set ?_ GE399.out) | exact HB.out))) (fun k_ h_ => h_)) (Kd.R_lt (by (with_reducible repeat (first | apply Kd.R_alloc | apply Kd.R_drewN | apply Kd.R_drew)); exact HO_400006.out))) (below_size (by repeat (first | (with_reducible first | exact HB.out | apply below_alloc | apply pw_below_drewN | apply below_drew1 | refine below_set ?_ GE392.out | refine below_set ?_ GE399.out) | exact HB.out))))
     have n9_ := Aside0.mk (blk_below (g := gb392) (o := .cells #[.int .i64 0, .bool false, .bool false, .slice none 0 0, .int .i64 0, .string (⟨#[]⟩ : ByteArray), .slice none 0 0, .slice none 0 0] 50 (0, 0)) (by (with_reducible repeat (first | refine blk_drewN ?_ _ | refine blk_drew ?_ | refine blk_alloc ?_ _)); exact BK392.out) hb)
     have n10_ := Aside0.mk (blk_below (g := gb399) (o := .cells #[.int .i64 7, .bool false, .bool false, .slice none 0 0, .int .i64 0, .string (⟨#[]⟩ : ByteArray), .slice Ao30 x400006_1.length co30, .slice Ao31 x400007_1.length co31] 50 (0, 0)) (by (with_reducible repeat (first | refine blk_drewN ?_ _ | refine blk_drew ?_ | refine blk_alloc ?_ _)); exact BK399.out) hb)
     have n11_ := Aside0.mk (Kd.C_below (by repeat (first | (with_reducible exact HR416_3.out) | (with_reducible refine Kd.C_alloc ?_ _) | (with_reducible refine Kd.C_drewN ?_ _) | (with_reducible refine Kd.C_drew ?_) | exact HR416_3.out)) hb)
     have n12_ := Aside0.mk (Kd.C_below (by repeat (first | (with_reducible exact HR416_6.out) | (with_reducible refine Kd.C_alloc ?_ _) | (with_reducible refine Kd.C_drewN ?_ _) | (with_reducible refine Kd.C_drew ?_) | exact HR416_6.out)) hb)
     have n13_ := Aside0.mk (Kd.C_below (by repeat (first | (with_reducible exact HR416_7.out) | (with_reducible refine Kd.C_alloc ?_ _) | (with_reducible refine Kd.C_drewN ?_ _) | (with_reducible refine Kd.C_drew ?_) | exact HR416_7.out)) hb)
     have n14_ := Aside0.mk (below_step (by repeat (first | (with_reducible first | exact HB.out | apply below_alloc | apply pw_below_drewN | apply below_drew1 | refine below_set ?_ GE392.out | refine below_set ?_ GE399.out) | exact HB.out)) hb)
     clear HO_1
     clear HO_11
     clear HO_400006
     clear HO_400007
     clear HL416_3
     clear HL416_6
     clear HL416_7
     clear HO419
     clear BK392
     clear BK399
     clear HR416_3
     clear HR416_6
     clear HR416_7
     clear HB
     have HO_1 := n0_
     have HO_11 := n1_
     have HO_400006 := n2_
     have HO_400007 := n3_
     have HL416_3 := n4_
     have HL416_6 := n5_
     have HL416_7 := n6_
     have HO419 := n7_
     have HO411 := n8_
     have BK392 := n9_
     have BK399 := n10_
     have HR416_3 := n11_
     have HR416_6 := n12_
     have HR416_7 := n13_
     have HB := n14_
     clear n0_ n1_ n2_ n3_ n4_ n5_ n6_ n7_ n8_ n9_ n10_ n11_ n12_ n13_ n14_
     clear hb ho36
     obtain ⟨Ao38, co38, eo38⟩ := Kd.R_slice HO411.out
     (first | subst eo38 | (injection eo38 with f1_ f2_ f3_; have f4_ := f1_.symm; have f5_ := f3_.symm; clear f1_ f2_ f3_; subst f4_; subst f5_))
     refine hK.out _ _ ⟨(blk_cell BK399.out 0).trans rfl, (blk_cell BK399.out 1).trans rfl, (blk_cell BK399.out 2).trans rfl, (blk_cell BK399.out 3).trans rfl, (blk_cell BK399.out 4).trans rfl, (blk_cell BK399.out 5).trans rfl, (blk_cell BK399.out 6).trans rfl, (blk_cell BK399.out 7).trans rfl, HS8_, ((HB.out.cell (World.block_lt_of_cell? w _ hw408_0)).trans hw408_0), HS10_, HS11_, HS12_, HS13_, HS14_, HS15_, HS16_, HS17_, HS18_⟩ (fun hHeld => ?_)
     clear hK K
     refine norm_ (a' := ?_) ?_ ?_
     rotate_left
     ·show Act.put _ (some 48) _ = _
      simp only [Act.put, s0_, s1_, s2_, i64_w, i32_w]
      rfl
     refine one_ (i := 10) (N := some 49) #[Y, Y, Y, Y, Y, Y, Y, Y, Y, Y, Y, Y, Y, Y, Y, Y, Y, Y, Y, Y, Y, Z, Z, Z, Z, Z] rfl rfl (one_of HT_.out (by kernel_rfl)) (by decide) (fun K hK => ?_)
     refine Kd.R_append_rows_step Kd.string (w0 := w) w.heap.size (by rfl) (.tmp 40) (.tmp 48) 35 9 (.string ⟨#[]⟩) 16 rfl Try.underlying35 info9 rfl (by decide) (by omega) (.slice Ao30 x400006_1.length co30) x400006_1 y409 _ _ _ (fun k_ => (w.heap.size ≤ k_) ∧ some k_ ≠ (.slice Ao38 y409.length co38 : Value).ownBlock) (fun _ => False) rfl rfl ?aO ?aR (fun _ _ h => h) (fun _ h => h.elim) ?aF ?aB ?aS ?aL ?_
     (case aR => repeat (first | exact (Kd.R_reads' HO411.out).2.2 | (with_reducible refine Kd.C_alloc ?_ _) | (with_reducible refine Kd.C_drewN ?_ _) | (with_reducible refine Kd.C_drew ?_)))
     (case aB => exact (by repeat (first | (with_reducible first | exact HB.out | apply below_alloc | apply pw_below_drewN | apply below_drew1 | refine below_set ?_ GE392.out | refine below_set ?_ GE399.out) | exact HB.out)))
     (case aF => exact (fun k_ hk => ⟨(Nat.le_trans (below_size (by repeat (first | (with_reducible first | exact HB.out | apply below_alloc | apply pw_below_drewN | apply below_drew1 | refine below_set ?_ GE392.out | refine below_set ?_ GE399.out) | exact HB.out))) hk), Kd.fresh' (Kd.R_lt (by (with_reducible repeat (first | apply Kd.R_alloc | apply Kd.R_drewN | apply Kd.R_drew)); exact HO411.out)) k_ hk⟩))
     (case aO => exact (by (with_reducible repeat (first | apply Kd.R_alloc | apply Kd.R_drewN | apply Kd.R_drew)); exact HO_400006.out))
     (case aS => exact (below_size (by repeat (first | (with_reducible first | exact HB.out | apply below_alloc | apply pw_below_drewN | apply below_drew1 | refine below_set ?_ GE392.out | refine below_set ?_ GE399.out) | exact HB.out))))
     (case aL => have := LMc26.out; omega)
     intro v413 w37 ho hb hg hat
     have HS8_ := cell_grown hg (hHeld.2.2.2.2.2.2.2.2.1) (by (first | rw [add_block] | (show some (Addr.add _ _).block ≠ _; rw [add_block]) | skip); first | (obtain ⟨_, hc_⟩ := Kd.R_typed HO_11.out _ rfl; first | exact Kd.R_ne HO_400006.out hc_ (by decide) | exact Kd.N_ne HO_400006.out hc_ (by decide)) | (have hc_ := Kd.F_in (Kd.V_F HO_11.out) rfl (by have a_ := of_eq_true p407; have b_ := of_eq_true q407; omega) (by decide); (try simp only [and_assoc] at hc_); repeat (first | (with_reducible exact hc_.1) | (with_reducible exact hc_) | replace hc_ := hc_.2)))
     have HS10_ := cell_grown hg (hHeld.2.2.2.2.2.2.2.2.2.2.1) (by (first | rw [add_block] | (show some (Addr.add _ _).block ≠ _; rw [add_block]) | skip); first | (obtain ⟨_, hc_⟩ := Kd.R_typed HO_11.out _ rfl; first | exact Kd.R_ne HO_400006.out hc_ (by decide) | exact Kd.N_ne HO_400006.out hc_ (by decide)) | (have hc_ := Kd.F_in (Kd.V_F HO_11.out) rfl (by have a_ := of_eq_true p415; have b_ := of_eq_true q415; omega) (by decide); (try simp only [and_assoc] at hc_); repeat (first | (with_reducible exact hc_.1) | (with_reducible exact hc_) | replace hc_ := hc_.2)))
     have HS11_ := cell_grown hg (hHeld.2.2.2.2.2.2.2.2.2.2.2.1) (by (first | rw [add_block] | (show some (Addr.add _ _).block ≠ _; rw [add_block]) | skip); first | (obtain ⟨_, hc_⟩ := Kd.R_typed HO_1.out _ rfl; first | exact Kd.R_ne HO_400006.out hc_ (by decide) | exact Kd.N_ne HO_400006.out hc_ (by decide)) | (have hc_ := Kd.F_in (Kd.V_F HO_1.out) rfl (by have a_ := of_eq_true p416; have b_ := of_eq_true q416; omega) (by decide); (try simp only [and_assoc] at hc_); repeat (first | (with_reducible exact hc_.1) | (with_reducible exact hc_) | replace hc_ := hc_.2)))
     have HS12_ := cell_grown hg (hHeld.2.2.2.2.2.2.2.2.2.2.2.2.1) (by (first | rw [add_block] | (show some (Addr.add _ _).block ≠ _; rw [add_block]) | skip); first | (obtain ⟨_, hc_⟩ := Kd.R_typed HO_1.out _ rfl; first | exact Kd.R_ne HO_400006.out hc_ (by decide) | exact Kd.N_ne HO_400006.out hc_ (by decide)) | (have hc_ := Kd.F_in (Kd.V_F HO_1.out) rfl (by have a_ := of_eq_true p416; have b_ := of_eq_true q416; omega) (by decide); (try simp only [and_assoc] at hc_); repeat (first | (with_reducible exact hc_.1) | (with_reducible exact hc_) | replace hc_ := hc_.2)))
     have HS13_ := cell_grown hg (hHeld.2.2.2.2.2.2.2.2.2.2.2.2.2.1) (by (first | rw [add_block] | (show some (Addr.add _ _).block ≠ _; rw [add_block]) | skip); first | (obtain ⟨_, hc_⟩ := Kd.R_typed HO_1.out _ rfl; first | exact Kd.R_ne HO_400006.out hc_ (by decide) | exact Kd.N_ne HO_400006.out hc_ (by decide)) | (have hc_ := Kd.F_in (Kd.V_F HO_1.out) rfl (by have a_ := of_eq_true p416; have b_ := of_eq_true q416; omega) (by decide); (try simp only [and_assoc] at hc_); repeat (first | (with_reducible exact hc_.1) | (with_reducible exact hc_) | replace hc_ := hc_.2)))
     have HS14_ := cell_grown hg (hHeld.2.2.2.2.2.2.2.2.2.2.2.2.2.2.1) (by (first | rw [add_block] | (show some (Addr.add _ _).block ≠ _; rw [add_block]) | skip); first | (obtain ⟨_, hc_⟩ := Kd.R_typed HO_1.out _ rfl; first | exact Kd.R_ne HO_400006.out hc_ (by decide) | exact Kd.N_ne HO_400006.out hc_ (by decide)) | (have hc_ := Kd.F_in (Kd.V_F HO_1.out) rfl (by have a_ := of_eq_true p416; have b_ := of_eq_true q416; omega) (by decide); (try simp only [and_assoc] at hc_); repeat (first | (with_reducible exact hc_.1) | (with_reducible exact hc_) | replace hc_ := hc_.2)))
     have HS15_ := cell_grown hg (hHeld.2.2.2.2.2.2.2.2.2.2.2.2.2.2.2.1) (by (first | rw [add_block] | (show some (Addr.add _ _).block ≠ _; rw [add_block]) | skip); first | (obtain ⟨_, hc_⟩ := Kd.R_typed HO_1.out _ rfl; first | exact Kd.R_ne HO_400006.out hc_ (by decide) | exact Kd.N_ne HO_400006.out hc_ (by decide)) | (have hc_ := Kd.F_in (Kd.V_F HO_1.out) rfl (by have a_ := of_eq_true p416; have b_ := of_eq_true q416; omega) (by decide); (try simp only [and_assoc] at hc_); repeat (first | (with_reducible exact hc_.1) | (with_reducible exact hc_) | replace hc_ := hc_.2)))
     have HS16_ := cell_grown hg (hHeld.2.2.2.2.2.2.2.2.2.2.2.2.2.2.2.2.1) (by (first | rw [add_block] | (show some (Addr.add _ _).block ≠ _; rw [add_block]) | skip); first | (obtain ⟨_, hc_⟩ := Kd.R_typed HO_1.out _ rfl; first | exact Kd.R_ne HO_400006.out hc_ (by decide) | exact Kd.N_ne HO_400006.out hc_ (by decide)) | (have hc_ := Kd.F_in (Kd.V_F HO_1.out) rfl (by have a_ := of_eq_true p416; have b_ := of_eq_true q416; omega) (by decide); (try simp only [and_assoc] at hc_); repeat (first | (with_reducible exact hc_.1) | (with_reducible exact hc_) | replace hc_ := hc_.2)))
     have HS17_ := cell_grown hg (hHeld.2.2.2.2.2.2.2.2.2.2.2.2.2.2.2.2.2.1) (by (first | rw [add_block] | (show some (Addr.add _ _).block ≠ _; rw [add_block]) | skip); first | (obtain ⟨_, hc_⟩ := Kd.R_typed HO_1.out _ rfl; first | exact Kd.R_ne HO_400006.out hc_ (by decide) | exact Kd.N_ne HO_400006.out hc_ (by decide)) | (have hc_ := Kd.F_in (Kd.V_F HO_1.out) rfl (by have a_ := of_eq_true p416; have b_ := of_eq_true q416; omega) (by decide); (try simp only [and_assoc] at hc_); repeat (first | (with_reducible exact hc_.1) | (with_reducible exact hc_) | replace hc_ := hc_.2)))
     have HS18_ := cell_grown hg (hHeld.2.2.2.2.2.2.2.2.2.2.2.2.2.2.2.2.2.2) (by (first | rw [add_block] | (show some (Addr.add _ _).block ≠ _; rw [add_block]) | skip); first | (obtain ⟨_, hc_⟩ := Kd.R_typed HO_1.out _ rfl; first | exact Kd.R_ne HO_400006.out hc_ (by decide) | exact Kd.N_ne HO_400006.out hc_ (by decide)) | (have hc_ := Kd.F_in (Kd.V_F HO_1.out) rfl (by have a_ := of_eq_true p416; have b_ := of_eq_true q416; omega) (by decide); (try simp only [and_assoc] at hc_); repeat (first | (with_reducible exact hc_.1) | (with_reducible exact hc_) | replace hc_ := hc_.2)))
     rw [← Ny412.out] at ho
     have n0_ := Aside0.mk (Kd.V_afterv (ok := (fun k_ => (P1_ k_ ∨ w.heap.size ≤ k_) ∧ some k_ ≠ (.slice (some ad407) t404.length co29 : Value).ownBlock ∧ some k_ ≠ (.slice Ao31 x400007_1.length co31 : Value).ownBlock ∧ some k_ ≠ (v418 : Value).ownBlock ∧ some k_ ≠ (.slice Ao38 y409.length co38 : Value).ownBlock ∧ k_ ≠ gb392 ∧ k_ ≠ gb399)) (by (with_reducible repeat (first | apply Kd.V_alloc | apply Kd.V_drewN | apply Kd.V_drew)); exact Kd.V_mono HO_1.out (fun _ hk => ⟨⟨hk.1.1.1, ⟨hk.1.1.2.1, ⟨hk.1.1.2.2.2.1, ⟨hk.1.2, ⟨hk.2, ⟨hk.1.1.2.2.2.2.1, hk.1.1.2.2.2.2.2⟩⟩⟩⟩⟩⟩, hk.1.1.2.2.1⟩)) hg hat)
     have n1_ := Aside0.mk (Kd.R_over' (by (with_reducible repeat (first | apply Kd.R_alloc | apply Kd.R_drewN | apply Kd.R_drew)); exact HO_11.out) (Kd.R_typed (by (with_reducible repeat (first | apply Kd.R_alloc | apply Kd.R_drewN | apply Kd.R_drew)); exact HO_400006.out)) (by decide) hg)
     have n2_ := Aside0.mk (Kd.N_afterv (ok := (fun k_ => (P1_ k_ ∨ w.heap.size ≤ k_) ∧ some k_ ≠ (.slice (some ad407) t404.length co29 : Value).ownBlock ∧ some k_ ≠ (v418 : Value).ownBlock ∧ some k_ ≠ (.slice Ao38 y409.length co38 : Value).ownBlock ∧ k_ ≠ gb392 ∧ k_ ≠ gb399)) (by (with_reducible repeat (first | apply Kd.N_alloc | apply Kd.N_drewN | apply Kd.N_drew)); exact Kd.N_mono HO_400007.out (fun _ hk => ⟨⟨hk.1.1.1, ⟨hk.1.1.2.1, ⟨hk.1.2, ⟨hk.2, ⟨hk.1.1.2.2.2.1, hk.1.1.2.2.2.2⟩⟩⟩⟩⟩, hk.1.1.2.2.1⟩)) hg hat)
     have n3_ := Aside0.mk (blk_grown (g := gb392) (o := .cells #[.int .i64 0, .bool false, .bool false, .slice none 0 0, .int .i64 0, .string (⟨#[]⟩ : ByteArray), .slice none 0 0, .slice none 0 0] 50 (0, 0)) (by (with_reducible repeat (first | refine blk_drewN ?_ _ | refine blk_drew ?_ | refine blk_alloc ?_ _)); exact BK392.out) hg (Kd.R_ne HO_400006.out BK392.out (by decide)))
     have n4_ := Aside0.mk (blk_grown (g := gb399) (o := .cells #[.int .i64 7, .bool false, .bool false, .slice none 0 0, .int .i64 0, .string (⟨#[]⟩ : ByteArray), .slice Ao30 x400006_1.length co30, .slice Ao31 x400007_1.length co31] 50 (0, 0)) (by (with_reducible repeat (first | refine blk_drewN ?_ _ | refine blk_drew ?_ | refine blk_alloc ?_ _)); exact BK399.out) hg (Kd.R_ne HO_400006.out BK399.out (by decide)))
     have n5_ := Aside0.mk (Kd.V_afterv (ok := (fun k_ => (P1_ k_ ∨ w.heap.size ≤ k_) ∧ some k_ ≠ (.slice (some ad407) t404.length co29 : Value).ownBlock ∧ some k_ ≠ (.slice Ao31 x400007_1.length co31 : Value).ownBlock ∧ some k_ ≠ (v418 : Value).ownBlock ∧ some k_ ≠ (.slice Ao38 y409.length co38 : Value).ownBlock ∧ k_ ≠ gb392 ∧ k_ ≠ gb399)) (by (with_reducible repeat (first | apply Kd.V_alloc | apply Kd.V_drewN | apply Kd.V_drew)); exact Kd.V_mono HL416_3.out (fun _ hk => ⟨⟨hk.1.1.1, ⟨hk.1.1.2.1, ⟨hk.1.1.2.2.2.1, ⟨hk.1.2, ⟨hk.2, ⟨hk.1.1.2.2.2.2.1, hk.1.1.2.2.2.2.2⟩⟩⟩⟩⟩⟩, hk.1.1.2.2.1⟩)) hg hat)
     have n6_ := Aside0.mk (Kd.V_afterv (ok := (fun k_ => (P1_ k_ ∨ w.heap.size ≤ k_) ∧ some k_ ≠ (.slice (some ad407) t404.length co29 : Value).ownBlock ∧ some k_ ≠ (.slice Ao31 x400007_1.length co31 : Value).ownBlock ∧ some k_ ≠ (v418 : Value).ownBlock ∧ some k_ ≠ (.slice Ao38 y409.length co38 : Value).ownBlock ∧ k_ ≠ gb392 ∧ k_ ≠ gb399)) (by (with_reducible repeat (first | apply Kd.V_alloc | apply Kd.V_drewN | apply Kd.V_drew)); exact Kd.V_mono HL416_6.out (fun _ hk => ⟨⟨hk.1.1.1, ⟨hk.1.1.2.1, ⟨hk.1.1.2.2.2.1, ⟨hk.1.2, ⟨hk.2, ⟨hk.1.1.2.2.2.2.1, hk.1.1.2.2.2.2.2⟩⟩⟩⟩⟩⟩, hk.1.1.2.2.1⟩)) hg hat)
     have n7_ := Aside0.mk (Kd.V_afterv (ok := (fun k_ => (P1_ k_ ∨ w.heap.size ≤ k_) ∧ some k_ ≠ (.slice (some ad407) t404.length co29 : Value).ownBlock ∧ some k_ ≠ (.slice Ao31 x400007_1.length co31 : Value).ownBlock ∧ some k_ ≠ (v418 : Value).ownBlock ∧ some k_ ≠ (.slice Ao38 y409.length co38 : Value).ownBlock ∧ k_ ≠ gb392 ∧ k_ ≠ gb399)) (by (with_reducible repeat (first | apply Kd.V_alloc | apply Kd.V_drewN | apply Kd.V_drew)); exact Kd.V_mono HL416_7.out (fun _ hk => ⟨⟨hk.1.1.1, ⟨hk.1.1.2.1, ⟨hk.1.1.2.2.2.1, ⟨hk.1.2, ⟨hk.2, ⟨hk.1.1.2.2.2.2.1, hk.1.1.2.2.2.2.2⟩⟩⟩⟩⟩⟩, hk.1.1.2.2.1⟩)) hg hat)
     have n8_ := Aside0.mk (Kd.N_afterv (ok := (fun k_ => (P1_ k_ ∨ w.heap.size ≤ k_) ∧ some k_ ≠ (.slice (some ad407) t404.length co29 : Value).ownBlock ∧ some k_ ≠ (.slice Ao31 x400007_1.length co31 : Value).ownBlock ∧ some k_ ≠ (.slice Ao38 y409.length co38 : Value).ownBlock ∧ k_ ≠ gb392 ∧ k_ ≠ gb399)) (by (with_reducible repeat (first | apply Kd.N_alloc | apply Kd.N_drewN | apply Kd.N_drew)); exact Kd.N_mono HO419.out (fun _ hk => ⟨⟨hk.1.1, ⟨hk.1.2.1, ⟨hk.1.2.2.2.1, ⟨hk.2, ⟨hk.1.2.2.2.2.1, hk.1.2.2.2.2.2⟩⟩⟩⟩⟩, hk.1.2.2.1⟩)) hg hat)
     have n9_ := Aside0.mk (Kd.R_after (ok := (fun k_ => (w.heap.size ≤ k_))) (by (with_reducible repeat (first | apply Kd.R_alloc | apply Kd.R_drewN | apply Kd.R_drew)); exact Kd.R_mono HO411.out (fun _ hk => ⟨hk.1.1, hk.2⟩)) hg hat)
     have n10_ := Aside0.mk (hb)
     have n11_ := Aside0.mk (ho)
     clear HO_1
     clear HO_11
     clear HO_400007
     clear BK392
     clear BK399
     clear HL416_3
     clear HL416_6
     clear HL416_7
     clear HO419
     clear HO411
     clear HB
     clear HO_400006
     have HO_1 := n0_
     have HO_11 := n1_
     have HO_400007 := n2_
     have BK392 := n3_
     have BK399 := n4_
     have HL416_3 := n5_
     have HL416_6 := n6_
     have HL416_7 := n7_
     have HO419 := n8_
     have HO411 := n9_
     have HB := n10_
     have HO414 := n11_
     clear n0_ n1_ n2_ n3_ n4_ n5_ n6_ n7_ n8_ n9_ n10_ n11_
     clear ho hb hg hat
     refine hK.out _ _ ⟨(blk_cell BK399.out 0).trans rfl, (blk_cell BK399.out 1).trans rfl, (blk_cell BK399.out 2).trans rfl, (blk_cell BK399.out 3).trans rfl, (blk_cell BK399.out 4).trans rfl, (blk_cell BK399.out 5).trans rfl, (blk_cell BK399.out 6).trans rfl, (blk_cell BK399.out 7).trans rfl, HS8_, ((HB.out.cell (World.block_lt_of_cell? w _ hw408_0)).trans hw408_0), HS10_, HS11_, HS12_, HS13_, HS14_, HS15_, HS16_, HS17_, HS18_⟩ (fun hHeld => ?_)
     clear hK K
     refine norm_ (a' := ?_) ?_ ?_
     rotate_left
     ·show Act.put _ (some 49) _ = _
      simp only [Act.put, s0_, s1_, s2_, i64_w, i32_w]
      rfl
     refine pure_ (i := 22) (N := some 61) (v := ?_) (a' := ?_) #[Y, Y, Y, Y, Y, Y, Y, Y, Y, Y, Y, Y, Y, Y, Y, Y, Y, Y, Y, Y, Y, Z, Y, Z, Z, Z] rfl rfl (any_of HT_.out (by kernel_rfl)) (fun _ _ _ h => h) (Or.inl ⟨by rfl, ?_⟩) ?_ ?_
     rotate_left
     ·intro w'
      go_simp
      with_reducible rfl
     rotate_left
     ·simp only [Act.put, s0_, s1_, s2_, i64_w, i32_w]
      rfl
     exact norm_ (by simp only [putAll, Act.put, s0_, s1_, s2_]) (hCont (.slice Ao38 y409.length co38, v413, v418) _ ⟨hHeld, (by (with_reducible repeat (first | apply Kd.V_alloc | apply Kd.V_drewN | apply Kd.V_drew)); exact Kd.V_mono HL416_3.out (fun _ hk => ⟨hk.1.1, ⟨hk.1.2.2.2.2.1, ⟨hk.2, ⟨hk.1.2.2.2.1, ⟨hk.1.2.1, ⟨hk.1.2.2.1, ⟨hk.1.2.2.2.2.2.1, hk.1.2.2.2.2.2.2⟩⟩⟩⟩⟩⟩⟩)), (by (with_reducible repeat (first | apply Kd.V_alloc | apply Kd.V_drewN | apply Kd.V_drew)); exact Kd.V_mono HL416_6.out (fun _ hk => ⟨hk.1.1, ⟨hk.1.2.2.2.2.1, ⟨hk.2, ⟨hk.1.2.2.2.1, ⟨hk.1.2.1, ⟨hk.1.2.2.1, ⟨hk.1.2.2.2.2.2.1, hk.1.2.2.2.2.2.2⟩⟩⟩⟩⟩⟩⟩)), (by (with_reducible repeat (first | apply Kd.V_alloc | apply Kd.V_drewN | apply Kd.V_drew)); exact Kd.V_mono HL416_7.out (fun _ hk => ⟨hk.1.1, ⟨hk.1.2.2.2.2.1, ⟨hk.2, ⟨hk.1.2.2.2.1, ⟨hk.1.2.1, ⟨hk.1.2.2.1, ⟨hk.1.2.2.2.2.2.1, hk.1.2.2.2.2.2.2⟩⟩⟩⟩⟩⟩⟩)), (by (with_reducible repeat (first | apply Kd.R_alloc | apply Kd.R_drewN | apply Kd.R_drew)); exact HO411.out), (by (with_reducible repeat (first | apply Kd.R_alloc | apply Kd.R_drewN | apply Kd.R_drew)); exact HO414.out), (by (with_reducible repeat (first | apply Kd.N_alloc | apply Kd.N_drewN | apply Kd.N_drew)); exact Kd.N_mono HO419.out (fun _ hk => ⟨hk.1.1, ⟨hk.1.2.2.2.1, ⟨hk.2, ⟨hk.1.2.1, ⟨hk.1.2.2.1, ⟨hk.1.2.2.2.2.1, hk.1.2.2.2.2.2⟩⟩⟩⟩⟩⟩)), (by (with_reducible repeat (first | apply Kd.V_alloc | apply Kd.V_drewN | apply Kd.V_drew)); exact Kd.V_mono HO_1.out (fun _ hk => ⟨hk.1.1, ⟨hk.1.2.2.2.2.1, ⟨hk.2, ⟨hk.1.2.2.2.1, ⟨hk.1.2.1, ⟨hk.1.2.2.1, ⟨hk.1.2.2.2.2.2.1, hk.1.2.2.2.2.2.2⟩⟩⟩⟩⟩⟩⟩)), (by (with_reducible repeat (first | apply Kd.R_alloc | apply Kd.R_drewN | apply Kd.R_drew)); exact HO_11.out), (by (with_reducible repeat (first | apply Kd.N_alloc | apply Kd.N_drewN | apply Kd.N_drew)); exact Kd.N_mono HO_400007.out (fun _ hk => ⟨hk.1.1, ⟨hk.1.2.2.2.1, ⟨hk.2, ⟨hk.1.2.2.1, ⟨hk.1.2.1, ⟨hk.1.2.2.2.2.1, hk.1.2.2.2.2.2⟩⟩⟩⟩⟩⟩)), (by (with_reducible repeat (first | refine blk_drewN ?_ _ | refine blk_drew ?_ | refine blk_alloc ?_ _)); exact BK392.out), (by (with_reducible repeat (first | refine blk_drewN ?_ _ | refine blk_drew ?_ | refine blk_alloc ?_ _)); exact BK399.out), (by repeat (first | (with_reducible first | exact HB.out | apply below_alloc | apply pw_below_drewN | apply below_drew1 | refine below_set ?_ GE392.out | refine below_set ?_ GE399.out) | exact HB.out))⟩)
   rintro ⟨v410, v413, v418⟩ w39 ⟨hS_, h0_, h1_, h2_, h3_, h4_, h5_, h6_, h7_, h8_, h9_, h10_, h11_⟩
   have n0_ : Aside0 (Kd.V (Kd.int .u32) 78 w39 w.heap.size (fun k_ => (P1_ k_ ∨ w.heap.size ≤ k_) ∧ some k_ ≠ (v410 : Value).ownBlock ∧ some k_ ≠ (v413 : Value).ownBlock ∧ some k_ ≠ (v418 : Value).ownBlock ∧ some k_ ≠ (.slice (some ad407) t404.length co29 : Value).ownBlock ∧ some k_ ≠ (.slice Ao31 x400007_1.length co31 : Value).ownBlock ∧ k_ ≠ gb392 ∧ k_ ≠ gb399) (.slice A416_3 ((rd_T50 l1 (rd t404 x12_1)).f2.f1).length c416_3) ((rd_T50 l1 (rd t404 x12_1)).f2.f1)) := ⟨h0_⟩
   have n1_ : Aside0 (Kd.V Kd.string 9 w39 w.heap.size (fun k_ => (P1_ k_ ∨ w.heap.size ≤ k_) ∧ some k_ ≠ (v410 : Value).ownBlock ∧ some k_ ≠ (v413 : Value).ownBlock ∧ some k_ ≠ (v418 : Value).ownBlock ∧ some k_ ≠ (.slice (some ad407) t404.length co29 : Value).ownBlock ∧ some k_ ≠ (.slice Ao31 x400007_1.length co31 : Value).ownBlock ∧ k_ ≠ gb392 ∧ k_ ≠ gb399) (.slice A416_6 ((rd_T50 l1 (rd t404 x12_1)).f4).length c416_6) ((rd_T50 l1 (rd t404 x12_1)).f4)) := ⟨h1_⟩
   have n2_ : Aside0 (Kd.V k50 50 w39 w.heap.size (fun k_ => (P1_ k_ ∨ w.heap.size ≤ k_) ∧ some k_ ≠ (v410 : Value).ownBlock ∧ some k_ ≠ (v413 : Value).ownBlock ∧ some k_ ≠ (v418 : Value).ownBlock ∧ some k_ ≠ (.slice (some ad407) t404.length co29 : Value).ownBlock ∧ some k_ ≠ (.slice Ao31 x400007_1.length co31 : Value).ownBlock ∧ k_ ≠ gb392 ∧ k_ ≠ gb399) (.slice A416_7 ((rd_T50 l1 (rd t404 x12_1)).f5).length c416_7) ((rd_T50 l1 (rd t404 x12_1)).f5)) := ⟨h2_⟩
   have n3_ : Aside0 (Kd.R Kd.string 9 w39 w.heap.size (fun k_ => (w.heap.size ≤ k_) ∧ some k_ ≠ (v413 : Value).ownBlock) v410 y409) := ⟨h3_⟩
   have n4_ : Aside0 (Kd.R Kd.string 9 w39 w.heap.size (fun k_ => (w.heap.size ≤ k_) ∧ some k_ ≠ (v410 : Value).ownBlock) v413 y412) := ⟨h4_⟩
   have n5_ : Aside0 (Kd.N k50 50 w39 w.heap.size (fun k_ => (P1_ k_ ∨ w.heap.size ≤ k_) ∧ some k_ ≠ (v410 : Value).ownBlock ∧ some k_ ≠ (v413 : Value).ownBlock ∧ some k_ ≠ (.slice (some ad407) t404.length co29 : Value).ownBlock ∧ some k_ ≠ (.slice Ao31 x400007_1.length co31 : Value).ownBlock ∧ k_ ≠ gb392 ∧ k_ ≠ gb399) v418 y417) := ⟨h5_⟩
   have n6_ : Aside0 (Kd.V k50 50 w39 w.heap.size (fun k_ => (P1_ k_ ∨ w.heap.size ≤ k_) ∧ some k_ ≠ (v410 : Value).ownBlock ∧ some k_ ≠ (v413 : Value).ownBlock ∧ some k_ ≠ (v418 : Value).ownBlock ∧ some k_ ≠ (.slice (some ad407) t404.length co29 : Value).ownBlock ∧ some k_ ≠ (.slice Ao31 x400007_1.length co31 : Value).ownBlock ∧ k_ ≠ gb392 ∧ k_ ≠ gb399) (.slice (some ad416) l1.length c1) l1) := ⟨h6_⟩
   have n7_ : Aside0 (Kd.R (Kd.int .i64) 3 w39 w.heap.size (fun k_ => (w.heap.size ≤ k_)) (.slice (some ad407) t404.length co29) t404) := ⟨h7_⟩
   have n8_ : Aside0 (Kd.N k50 50 w39 w.heap.size (fun k_ => (P1_ k_ ∨ w.heap.size ≤ k_) ∧ some k_ ≠ (v410 : Value).ownBlock ∧ some k_ ≠ (v413 : Value).ownBlock ∧ some k_ ≠ (v418 : Value).ownBlock ∧ some k_ ≠ (.slice (some ad407) t404.length co29 : Value).ownBlock ∧ k_ ≠ gb392 ∧ k_ ≠ gb399) (.slice Ao31 x400007_1.length co31) x400007_1) := ⟨h8_⟩
   have n9_ : Aside0 (w39.heap[gb392]? = some (.cells #[.int .i64 0, .bool false, .bool false, .slice none 0 0, .int .i64 0, .string (⟨#[]⟩ : ByteArray), .slice none 0 0, .slice none 0 0] 50 (0, 0))) := ⟨h9_⟩
   have n10_ : Aside0 (w39.heap[gb399]? = some (.cells #[.int .i64 7, .bool false, .bool false, .slice none 0 0, .int .i64 0, .string (⟨#[]⟩ : ByteArray), .slice Ao30 x400006_1.length co30, .slice Ao31 x400007_1.length co31] 50 (0, 0))) := ⟨h10_⟩
   have n11_ : Aside0 (Below w.heap.size w w39) := ⟨h11_⟩
   clear HO_1
   clear HO_11
   clear HO_400006
   clear HO_400007
   clear BK392
   clear BK399
   clear HB
   clear h0_ h1_ h2_ h3_ h4_ h5_ h6_ h7_ h8_ h9_ h10_ h11_
   have HL416_3 := n0_
   have HL416_6 := n1_
   have HL416_7 := n2_
   have HO411 := n3_
   have HO414 := n4_
   have HO419 := n5_
   have HO_1 := n6_
   have HO_11 := n7_
   have HO_400007 := n8_
   have BK392 := n9_
   have BK399 := n10_
   have HB := n11_
   clear n0_ n1_ n2_ n3_ n4_ n5_ n6_ n7_ n8_ n9_ n10_ n11_
   have hHeld : w39.cell? ⟨gb399, 0, none⟩ = some (.int .i64 7) ∧ w39.cell? ⟨gb399, 1, none⟩ = some (.bool false) ∧ w39.cell? ⟨gb399, 2, none⟩ = some (.bool false) ∧ w39.cell? ⟨gb399, 3, none⟩ = some (.slice none 0 0) ∧ w39.cell? ⟨gb399, 4, none⟩ = some (.int .i64 0) ∧ w39.cell? ⟨gb399, 5, none⟩ = some (.string (⟨#[]⟩ : ByteArray)) ∧ w39.cell? ⟨gb399, 6, none⟩ = some (.slice Ao30 x400006_1.length co30) ∧ w39.cell? ⟨gb399, 7, none⟩ = some (.slice Ao31 x400007_1.length co31) ∧ w39.cell? (ad407.add (x12_1).toNat) = some (.int .i64 (rd t404 x12_1)) ∧ w39.cell? (ad408.add ((rd t404 x12_1)).toNat) = some (.string (rdOf ByteArray.empty l0 (rd t404 x12_1))) ∧ w39.cell? (ad407.add (x12_1).toNat) = some (.int .i64 (rd t404 x12_1)) ∧ w39.cell? (ad416.add (((rd t404 x12_1)).toNat * 8)) = some (.int .i64 ((rd_T50 l1 (rd t404 x12_1)).f0)) ∧ w39.cell? ⟨(ad416.add (((rd t404 x12_1)).toNat * 8)).block, (ad416.add (((rd t404 x12_1)).toNat * 8)).off + 1, none⟩ = some (.bool ((rd_T50 l1 (rd t404 x12_1)).f1)) ∧ w39.cell? ⟨(ad416.add (((rd t404 x12_1)).toNat * 8)).block, (ad416.add (((rd t404 x12_1)).toNat * 8)).off + 2, none⟩ = some (.bool ((rd_T50 l1 (rd t404 x12_1)).f2.f0)) ∧ w39.cell? ⟨(ad416.add (((rd t404 x12_1)).toNat * 8)).block, (ad416.add (((rd t404 x12_1)).toNat * 8)).off + 3, none⟩ = some (.slice A416_3 ((rd_T50 l1 (rd t404 x12_1)).f2.f1).length c416_3) ∧ w39.cell? ⟨(ad416.add (((rd t404 x12_1)).toNat * 8)).block, (ad416.add (((rd t404 x12_1)).toNat * 8)).off + 4, none⟩ = some (.int .i64 ((rd_T50 l1 (rd t404 x12_1)).f2.f2)) ∧ w39.cell? ⟨(ad416.add (((rd t404 x12_1)).toNat * 8)).block, (ad416.add (((rd t404 x12_1)).toNat * 8)).off + 5, none⟩ = some (.string ((rd_T50 l1 (rd t404 x12_1)).f3)) ∧ w39.cell? ⟨(ad416.add (((rd t404 x12_1)).toNat * 8)).block, (ad416.add (((rd t404 x12_1)).toNat * 8)).off + 6, none⟩ = some (.slice A416_6 ((rd_T50 l1 (rd t404 x12_1)).f4).length c416_6) ∧ w39.cell? ⟨(ad416.add (((rd t404 x12_1)).toNat * 8)).block, (ad416.add (((rd t404 x12_1)).toNat * 8)).off + 7, none⟩ = some (.slice A416_7 ((rd_T50 l1 (rd t404 x12_1)).f5).length c416_7) := hS_
   obtain ⟨Ao41, co41, eo41⟩ := Kd.N_slice HO419.out
   (first | subst eo41 | (injection eo41 with f1_ f2_ f3_; have f4_ := f1_.symm; have f5_ := f3_.symm; clear f1_ f2_ f3_; subst f4_; subst f5_))
   refine norm_ (a' := ?_) ?_ ?_
   rotate_left
   ·simp only [putAll, Act.put, s0_, s1_, s2_]
    rfl
   refine one_ (i := 21) (N := some 60) #[Y, Y, Y, Y, Y, Y, Y, Y, Y, Y, Y, Y, Y, Y, Y, Y, Y, Y, Y, Y, Y, Y, Y, Z, Z, Z] rfl rfl (one_of HT_.out (by kernel_rfl)) (by decide) (fun K hK => ?_)
   refine Kd.N_append_rows_step k50 (w0 := w) w.heap.size (by rfl) (.tmp 51) (.tmp 59) 44 50 (.agg #[(.int .i64 0), (.bool false), (.bool false), (.slice none 0 0), (.int .i64 0), (.string ⟨#[]⟩), (.slice none 0 0), (.slice none 0 0)]) 120 rfl Try.underlying44 info50 rfl (by decide) (by omega) (.slice Ao31 x400007_1.length co31) x400007_1 y417 _ _ _ (fun k_ => (P1_ k_ ∨ w.heap.size ≤ k_) ∧ some k_ ≠ (.slice (some ad407) t404.length co29 : Value).ownBlock ∧ some k_ ≠ (v410 : Value).ownBlock ∧ some k_ ≠ (v413 : Value).ownBlock ∧ k_ ≠ gb392 ∧ k_ ≠ gb399) (fun k_ => ((fun k_ => (P1_ k_ ∨ w.heap.size ≤ k_) ∧ some k_ ≠ (.slice (some ad407) t404.length co29 : Value).ownBlock ∧ some k_ ≠ (v410 : Value).ownBlock ∧ some k_ ≠ (v413 : Value).ownBlock ∧ k_ ≠ gb392 ∧ k_ ≠ gb399)) k_ ∧ some k_ ≠ (.slice Ao31 x400007_1.length co31 : Value).ownBlock) rfl rfl ?aO ?aR (fun _ hk => hk) ?aF ?aB ?aS ?aL ?_
   (case aR => exact (by skip; exact Kd.N_F (Kd.N_mono (ok' := (fun k_ => ((fun k_ => (P1_ k_ ∨ w.heap.size ≤ k_) ∧ some k_ ≠ (.slice (some ad407) t404.length co29 : Value).ownBlock ∧ some k_ ≠ (v410 : Value).ownBlock ∧ some k_ ≠ (v413 : Value).ownBlock ∧ k_ ≠ gb392 ∧ k_ ≠ gb399)) k_ ∧ some k_ ≠ (.slice Ao31 x400007_1.length co31 : Value).ownBlock)) (HO419.out) (fun k_ hk => ⟨⟨hk.1, ⟨hk.2.2.2.1, ⟨hk.2.1, ⟨hk.2.2.1, ⟨hk.2.2.2.2.2.1, hk.2.2.2.2.2.2⟩⟩⟩⟩⟩, hk.2.2.2.2.1⟩))))
   (case aB => exact (by repeat (first | (with_reducible first | exact HB.out | apply below_alloc | apply pw_below_drewN | apply below_drew1 | refine below_set ?_ GE392.out | refine below_set ?_ GE399.out) | exact HB.out)))
   (case aF => exact (fun k_ hk => ⟨(.inr (Nat.le_trans (below_size (by repeat (first | (with_reducible first | exact HB.out | apply below_alloc | apply pw_below_drewN | apply below_drew1 | refine below_set ?_ GE392.out | refine below_set ?_ GE399.out) | exact HB.out))) hk)), Kd.fresh' (Kd.R_lt (by (with_reducible repeat (first | apply Kd.R_alloc | apply Kd.R_drewN | apply Kd.R_drew)); exact HO_11.out)) k_ hk, Kd.fresh' (Kd.R_lt (by (with_reducible repeat (first | apply Kd.R_alloc | apply Kd.R_drewN | apply Kd.R_drew)); exact HO411.out)) k_ hk, Kd.fresh' (Kd.R_lt (by (with_reducible repeat (first | apply Kd.R_alloc | apply Kd.R_drewN | apply Kd.R_drew)); exact HO414.out)) k_ hk, Kd.freshB (g := gb392) (o := .cells #[.int .i64 0, .bool false, .bool false, .slice none 0 0, .int .i64 0, .string (⟨#[]⟩ : ByteArray), .slice none 0 0, .slice none 0 0] 50 (0, 0)) (by (with_reducible repeat (first | refine blk_drewN ?_ _ | refine blk_drew ?_ | refine blk_alloc ?_ _)); exact BK392.out) k_ hk, Kd.freshB (g := gb399) (o := .cells #[.int .i64 7, .bool false, .bool false, .slice none 0 0, .int .i64 0, .string (⟨#[]⟩ : ByteArray), .slice Ao30 x400006_1.length co30, .slice Ao31 x400007_1.length co31] 50 (0, 0)) (by (with_reducible repeat (first | refine blk_drewN ?_ _ | refine blk_drew ?_ | refine blk_alloc ?_ _)); exact BK399.out) k_ hk⟩))
   (case aO => exact (by (with_reducible repeat (first | apply Kd.N_alloc | apply Kd.N_drewN | apply Kd.N_drew)); exact Kd.N_mono HO_400007.out (fun _ hk => ⟨hk.1, ⟨hk.2.2.2.2.1, ⟨hk.2.1, ⟨hk.2.2.1, ⟨hk.2.2.2.2.2.1, hk.2.2.2.2.2.2⟩⟩⟩⟩⟩)))
   (case aS => exact (below_size (by repeat (first | (with_reducible first | exact HB.out | apply below_alloc | apply pw_below_drewN | apply below_drew1 | refine below_set ?_ GE392.out | refine below_set ?_ GE399.out) | exact HB.out))))
   (case aL => have := LMc28.out; omega)
   intro v421 w40 ho hb hg hat
   have HS8_ := cell_grown hg (hHeld.2.2.2.2.2.2.2.2.1) (by (first | rw [add_block] | (show some (Addr.add _ _).block ≠ _; rw [add_block]) | skip); first | (obtain ⟨_, hc_⟩ := Kd.R_typed HO_11.out _ rfl; first | exact Kd.R_ne HO_400007.out hc_ (by decide) | exact Kd.N_ne HO_400007.out hc_ (by decide)) | (have hc_ := Kd.F_in (Kd.V_F HO_11.out) rfl (by have a_ := of_eq_true p407; have b_ := of_eq_true q407; omega) (by decide); (try simp only [and_assoc] at hc_); repeat (first | (with_reducible exact hc_.1) | (with_reducible exact hc_) | replace hc_ := hc_.2)))
   have HS10_ := cell_grown hg (hHeld.2.2.2.2.2.2.2.2.2.2.1) (by (first | rw [add_block] | (show some (Addr.add _ _).block ≠ _; rw [add_block]) | skip); first | (obtain ⟨_, hc_⟩ := Kd.R_typed HO_11.out _ rfl; first | exact Kd.R_ne HO_400007.out hc_ (by decide) | exact Kd.N_ne HO_400007.out hc_ (by decide)) | (have hc_ := Kd.F_in (Kd.V_F HO_11.out) rfl (by have a_ := of_eq_true p415; have b_ := of_eq_true q415; omega) (by decide); (try simp only [and_assoc] at hc_); repeat (first | (with_reducible exact hc_.1) | (with_reducible exact hc_) | replace hc_ := hc_.2)))
   have HS11_ := cell_grown hg (hHeld.2.2.2.2.2.2.2.2.2.2.2.1) (by (first | rw [add_block] | (show some (Addr.add _ _).block ≠ _; rw [add_block]) | skip); first | (obtain ⟨_, hc_⟩ := Kd.R_typed HO_1.out _ rfl; first | exact Kd.R_ne HO_400007.out hc_ (by decide) | exact Kd.N_ne HO_400007.out hc_ (by decide)) | (have hc_ := Kd.F_in (Kd.V_F HO_1.out) rfl (by have a_ := of_eq_true p416; have b_ := of_eq_true q416; omega) (by decide); (try simp only [and_assoc] at hc_); repeat (first | (with_reducible exact hc_.1) | (with_reducible exact hc_) | replace hc_ := hc_.2)))
   have HS12_ := cell_grown hg (hHeld.2.2.2.2.2.2.2.2.2.2.2.2.1) (by (first | rw [add_block] | (show some (Addr.add _ _).block ≠ _; rw [add_block]) | skip); first | (obtain ⟨_, hc_⟩ := Kd.R_typed HO_1.out _ rfl; first | exact Kd.R_ne HO_400007.out hc_ (by decide) | exact Kd.N_ne HO_400007.out hc_ (by decide)) | (have hc_ := Kd.F_in (Kd.V_F HO_1.out) rfl (by have a_ := of_eq_true p416; have b_ := of_eq_true q416; omega) (by decide); (try simp only [and_assoc] at hc_); repeat (first | (with_reducible exact hc_.1) | (with_reducible exact hc_) | replace hc_ := hc_.2)))
   have HS13_ := cell_grown hg (hHeld.2.2.2.2.2.2.2.2.2.2.2.2.2.1) (by (first | rw [add_block] | (show some (Addr.add _ _).block ≠ _; rw [add_block]) | skip); first | (obtain ⟨_, hc_⟩ := Kd.R_typed HO_1.out _ rfl; first | exact Kd.R_ne HO_400007.out hc_ (by decide) | exact Kd.N_ne HO_400007.out hc_ (by decide)) | (have hc_ := Kd.F_in (Kd.V_F HO_1.out) rfl (by have a_ := of_eq_true p416; have b_ := of_eq_true q416; omega) (by decide); (try simp only [and_assoc] at hc_); repeat (first | (with_reducible exact hc_.1) | (with_reducible exact hc_) | replace hc_ := hc_.2)))
   have HS14_ := cell_grown hg (hHeld.2.2.2.2.2.2.2.2.2.2.2.2.2.2.1) (by (first | rw [add_block] | (show some (Addr.add _ _).block ≠ _; rw [add_block]) | skip); first | (obtain ⟨_, hc_⟩ := Kd.R_typed HO_1.out _ rfl; first | exact Kd.R_ne HO_400007.out hc_ (by decide) | exact Kd.N_ne HO_400007.out hc_ (by decide)) | (have hc_ := Kd.F_in (Kd.V_F HO_1.out) rfl (by have a_ := of_eq_true p416; have b_ := of_eq_true q416; omega) (by decide); (try simp only [and_assoc] at hc_); repeat (first | (with_reducible exact hc_.1) | (with_reducible exact hc_) | replace hc_ := hc_.2)))
   have HS15_ := cell_grown hg (hHeld.2.2.2.2.2.2.2.2.2.2.2.2.2.2.2.1) (by (first | rw [add_block] | (show some (Addr.add _ _).block ≠ _; rw [add_block]) | skip); first | (obtain ⟨_, hc_⟩ := Kd.R_typed HO_1.out _ rfl; first | exact Kd.R_ne HO_400007.out hc_ (by decide) | exact Kd.N_ne HO_400007.out hc_ (by decide)) | (have hc_ := Kd.F_in (Kd.V_F HO_1.out) rfl (by have a_ := of_eq_true p416; have b_ := of_eq_true q416; omega) (by decide); (try simp only [and_assoc] at hc_); repeat (first | (with_reducible exact hc_.1) | (with_reducible exact hc_) | replace hc_ := hc_.2)))
   have HS16_ := cell_grown hg (hHeld.2.2.2.2.2.2.2.2.2.2.2.2.2.2.2.2.1) (by (first | rw [add_block] | (show some (Addr.add _ _).block ≠ _; rw [add_block]) | skip); first | (obtain ⟨_, hc_⟩ := Kd.R_typed HO_1.out _ rfl; first | exact Kd.R_ne HO_400007.out hc_ (by decide) | exact Kd.N_ne HO_400007.out hc_ (by decide)) | (have hc_ := Kd.F_in (Kd.V_F HO_1.out) rfl (by have a_ := of_eq_true p416; have b_ := of_eq_true q416; omega) (by decide); (try simp only [and_assoc] at hc_); repeat (first | (with_reducible exact hc_.1) | (with_reducible exact hc_) | replace hc_ := hc_.2)))
   have HS17_ := cell_grown hg (hHeld.2.2.2.2.2.2.2.2.2.2.2.2.2.2.2.2.2.1) (by (first | rw [add_block] | (show some (Addr.add _ _).block ≠ _; rw [add_block]) | skip); first | (obtain ⟨_, hc_⟩ := Kd.R_typed HO_1.out _ rfl; first | exact Kd.R_ne HO_400007.out hc_ (by decide) | exact Kd.N_ne HO_400007.out hc_ (by decide)) | (have hc_ := Kd.F_in (Kd.V_F HO_1.out) rfl (by have a_ := of_eq_true p416; have b_ := of_eq_true q416; omega) (by decide); (try simp only [and_assoc] at hc_); repeat (first | (with_reducible exact hc_.1) | (with_reducible exact hc_) | replace hc_ := hc_.2)))
   have HS18_ := cell_grown hg (hHeld.2.2.2.2.2.2.2.2.2.2.2.2.2.2.2.2.2.2) (by (first | rw [add_block] | (show some (Addr.add _ _).block ≠ _; rw [add_block]) | skip); first | (obtain ⟨_, hc_⟩ := Kd.R_typed HO_1.out _ rfl; first | exact Kd.R_ne HO_400007.out hc_ (by decide) | exact Kd.N_ne HO_400007.out hc_ (by decide)) | (have hc_ := Kd.F_in (Kd.V_F HO_1.out) rfl (by have a_ := of_eq_true p416; have b_ := of_eq_true q416; omega) (by decide); (try simp only [and_assoc] at hc_); repeat (first | (with_reducible exact hc_.1) | (with_reducible exact hc_) | replace hc_ := hc_.2)))
   rw [← Ny420.out] at ho
   have n0_ := Aside0.mk (Kd.V_afterv (ok := (fun k_ => (P1_ k_ ∨ w.heap.size ≤ k_) ∧ some k_ ≠ (.slice (some ad407) t404.length co29 : Value).ownBlock ∧ some k_ ≠ (v410 : Value).ownBlock ∧ some k_ ≠ (v413 : Value).ownBlock ∧ some k_ ≠ (.slice Ao41 y417.length co41 : Value).ownBlock ∧ k_ ≠ gb392 ∧ k_ ≠ gb399)) (by (with_reducible repeat (first | apply Kd.V_alloc | apply Kd.V_drewN | apply Kd.V_drew)); exact Kd.V_mono HO_1.out (fun _ hk => ⟨⟨hk.1, ⟨hk.2.2.2.2.1, ⟨hk.2.1, ⟨hk.2.2.1, ⟨hk.2.2.2.1, ⟨hk.2.2.2.2.2.2.1, hk.2.2.2.2.2.2.2⟩⟩⟩⟩⟩⟩, hk.2.2.2.2.2.1⟩)) hg hat)
   have n1_ := Aside0.mk (Kd.R_over' (by (with_reducible repeat (first | apply Kd.R_alloc | apply Kd.R_drewN | apply Kd.R_drew)); exact HO_11.out) (Kd.N_typed (by (with_reducible repeat (first | apply Kd.N_alloc | apply Kd.N_drewN | apply Kd.N_drew)); exact HO_400007.out)) (by decide) hg)
   have n2_ := Aside0.mk (blk_grown (g := gb392) (o := .cells #[.int .i64 0, .bool false, .bool false, .slice none 0 0, .int .i64 0, .string (⟨#[]⟩ : ByteArray), .slice none 0 0, .slice none 0 0] 50 (0, 0)) (by (with_reducible repeat (first | refine blk_drewN ?_ _ | refine blk_drew ?_ | refine blk_alloc ?_ _)); exact BK392.out) hg (Kd.N_away HO_400007.out (fun _ hk => hk.2.2.2.2.2.1)))
   have n3_ := Aside0.mk (blk_grown (g := gb399) (o := .cells #[.int .i64 7, .bool false, .bool false, .slice none 0 0, .int .i64 0, .string (⟨#[]⟩ : ByteArray), .slice Ao30 x400006_1.length co30, .slice Ao31 x400007_1.length co31] 50 (0, 0)) (by (with_reducible repeat (first | refine blk_drewN ?_ _ | refine blk_drew ?_ | refine blk_alloc ?_ _)); exact BK399.out) hg (Kd.N_away HO_400007.out (fun _ hk => hk.2.2.2.2.2.2)))
   have n4_ := Aside0.mk (Kd.V_afterv (ok := (fun k_ => (P1_ k_ ∨ w.heap.size ≤ k_) ∧ some k_ ≠ (.slice (some ad407) t404.length co29 : Value).ownBlock ∧ some k_ ≠ (v410 : Value).ownBlock ∧ some k_ ≠ (v413 : Value).ownBlock ∧ some k_ ≠ (.slice Ao41 y417.length co41 : Value).ownBlock ∧ k_ ≠ gb392 ∧ k_ ≠ gb399)) (by (with_reducible repeat (first | apply Kd.V_alloc | apply Kd.V_drewN | apply Kd.V_drew)); exact Kd.V_mono HL416_3.out (fun _ hk => ⟨⟨hk.1, ⟨hk.2.2.2.2.1, ⟨hk.2.1, ⟨hk.2.2.1, ⟨hk.2.2.2.1, ⟨hk.2.2.2.2.2.2.1, hk.2.2.2.2.2.2.2⟩⟩⟩⟩⟩⟩, hk.2.2.2.2.2.1⟩)) hg hat)
   have n5_ := Aside0.mk (Kd.V_afterv (ok := (fun k_ => (P1_ k_ ∨ w.heap.size ≤ k_) ∧ some k_ ≠ (.slice (some ad407) t404.length co29 : Value).ownBlock ∧ some k_ ≠ (v410 : Value).ownBlock ∧ some k_ ≠ (v413 : Value).ownBlock ∧ some k_ ≠ (.slice Ao41 y417.length co41 : Value).ownBlock ∧ k_ ≠ gb392 ∧ k_ ≠ gb399)) (by (with_reducible repeat (first | apply Kd.V_alloc | apply Kd.V_drewN | apply Kd.V_drew)); exact Kd.V_mono HL416_6.out (fun _ hk => ⟨⟨hk.1, ⟨hk.2.2.2.2.1, ⟨hk.2.1, ⟨hk.2.2.1, ⟨hk.2.2.2.1, ⟨hk.2.2.2.2.2.2.1, hk.2.2.2.2.2.2.2⟩⟩⟩⟩⟩⟩, hk.2.2.2.2.2.1⟩)) hg hat)
   have n6_ := Aside0.mk (Kd.V_afterv (ok := (fun k_ => (P1_ k_ ∨ w.heap.size ≤ k_) ∧ some k_ ≠ (.slice (some ad407) t404.length co29 : Value).ownBlock ∧ some k_ ≠ (v410 : Value).ownBlock ∧ some k_ ≠ (v413 : Value).ownBlock ∧ some k_ ≠ (.slice Ao41 y417.length co41 : Value).ownBlock ∧ k_ ≠ gb392 ∧ k_ ≠ gb399)) (by (with_reducible repeat (first | apply Kd.V_alloc | apply Kd.V_drewN | apply Kd.V_drew)); exact Kd.V_mono HL416_7.out (fun _ hk => ⟨⟨hk.1, ⟨hk.2.2.2.2.1, ⟨hk.2.1, ⟨hk.2.2.1, ⟨hk.2.2.2.1, ⟨hk.2.2.2.2.2.2.1, hk.2.2.2.2.2.2.2⟩⟩⟩⟩⟩⟩, hk.2.2.2.2.2.1⟩)) hg hat)
   have n7_ := Aside0.mk (Kd.R_over' (by (with_reducible repeat (first | apply Kd.R_alloc | apply Kd.R_drewN | apply Kd.R_drew)); exact HO411.out) (Kd.N_typed (by (with_reducible repeat (first | apply Kd.N_alloc | apply Kd.N_drewN | apply Kd.N_drew)); exact HO_400007.out)) (by decide) hg)
   have n8_ := Aside0.mk (Kd.R_over' (by (with_reducible repeat (first | apply Kd.R_alloc | apply Kd.R_drewN | apply Kd.R_drew)); exact HO414.out) (Kd.N_typed (by (with_reducible repeat (first | apply Kd.N_alloc | apply Kd.N_drewN | apply Kd.N_drew)); exact HO_400007.out)) (by decide) hg)
   have n9_ := Aside0.mk (Kd.N_afterv (ok := (fun k_ => (P1_ k_ ∨ w.heap.size ≤ k_) ∧ some k_ ≠ (.slice (some ad407) t404.length co29 : Value).ownBlock ∧ some k_ ≠ (v410 : Value).ownBlock ∧ some k_ ≠ (v413 : Value).ownBlock ∧ k_ ≠ gb392 ∧ k_ ≠ gb399)) (by (with_reducible repeat (first | apply Kd.N_alloc | apply Kd.N_drewN | apply Kd.N_drew)); exact Kd.N_mono HO419.out (fun _ hk => ⟨⟨hk.1, ⟨hk.2.2.2.1, ⟨hk.2.1, ⟨hk.2.2.1, ⟨hk.2.2.2.2.2.1, hk.2.2.2.2.2.2⟩⟩⟩⟩⟩, hk.2.2.2.2.1⟩)) hg hat)
   have n10_ := Aside0.mk (hb)
   have n11_ := Aside0.mk (ho)
   clear HO_1
   clear HO_11
   clear BK392
   clear BK399
   clear HL416_3
   clear HL416_6
   clear HL416_7
   clear HO411
   clear HO414
   clear HO419
   clear HB
   clear HO_400007
   have HO_1 := n0_
   have HO_11 := n1_
   have BK392 := n2_
   have BK399 := n3_
   have HL416_3 := n4_
   have HL416_6 := n5_
   have HL416_7 := n6_
   have HO411 := n7_
   have HO414 := n8_
   have HO419 := n9_
   have HB := n10_
   have HO422 := n11_
   clear n0_ n1_ n2_ n3_ n4_ n5_ n6_ n7_ n8_ n9_ n10_ n11_
   clear ho hb hg hat
   obtain ⟨Ao42, co42, eo42⟩ := Kd.R_slice HO414.out
   (first | subst eo42 | (injection eo42 with f1_ f2_ f3_; have f4_ := f1_.symm; have f5_ := f3_.symm; clear f1_ f2_ f3_; subst f4_; subst f5_))
   obtain ⟨Ao44, co44, eo44⟩ := Kd.N_slice HO422.out
   (first | subst eo44 | (injection eo44 with f1_ f2_ f3_; have f4_ := f1_.symm; have f5_ := f3_.symm; clear f1_ f2_ f3_; subst f4_; subst f5_))
   refine hK.out _ _ ⟨(blk_cell BK399.out 0).trans rfl, (blk_cell BK399.out 1).trans rfl, (blk_cell BK399.out 2).trans rfl, (blk_cell BK399.out 3).trans rfl, (blk_cell BK399.out 4).trans rfl, (blk_cell BK399.out 5).trans rfl, (blk_cell BK399.out 6).trans rfl, (blk_cell BK399.out 7).trans rfl, HS8_, ((HB.out.cell (World.block_lt_of_cell? w _ hw408_0)).trans hw408_0), HS10_, HS11_, HS12_, HS13_, HS14_, HS15_, HS16_, HS17_, HS18_⟩ (fun hHeld => ?_)
   clear hK K
   refine norm_ (a' := ?_) ?_ ?_
   rotate_left
   ·show Act.put _ (some 60) _ = _
    simp only [Act.put, s0_, s1_, s2_, i64_w, i32_w]
    rfl
   refine last_ (i := 23) (N := none) #[Y, Y, Y, Y, Y, Y, Y, Y, Y, Y, Y, Y, Y, Y, Y, Y, Y, Y, Y, Y, Y, Y, Y, Y, Z, Z] rfl rfl (one_of HT_.out (by kernel_rfl)) (by decide) (fun K hK => ?_)
   have hs43 : w40.cell? ⟨gb399, 6, none⟩ = some (.slice Ao30 x400006_1.length co30) := (blk_cell BK399.out 6).trans rfl
   have hfs43 := blk_frozen BK399.out 6
   have hns43_0 := NB392_399.out
   have hms43_0 := NB399_392.out
   refine skip_ (w1 := ?_) (by rfl) rfl ?_ ?_
   rotate_left
   ·go_simp
    rfl
   refine hK.out _ _ ?_
   clear hK K
   refine pure_ (i := 24) (N := some 62) (v := ?_) (a' := ?_) #[Y, Y, Y, Y, Y, Y, Y, Y, Y, Y, Y, Y, Y, Y, Y, Y, Y, Y, Y, Y, Y, Y, Y, Y, Y, Z] rfl rfl (any_of HT_.out (by kernel_rfl)) (fun _ _ _ h => h) (Or.inl ⟨by rfl, ?_⟩) ?_ ?_
   rotate_left
   ·intro w'
    go_simp
    with_reducible rfl
   rotate_left
   ·simp only [Act.put, s0_, s1_, s2_, i64_w, i32_w]
    rfl
   refine last_ (i := 25) (N := none) #[Y, Y, Y, Y, Y, Y, Y, Y, Y, Y, Y, Y, Y, Y, Y, Y, Y, Y, Y, Y, Y, Y, Y, Y, Y, Y] rfl rfl (one_of HT_.out (by kernel_rfl)) (by decide) (fun K hK => ?_)
   have hs45 : w40.cell? ⟨gb399, 7, none⟩ = some (.slice Ao31 x400007_1.length co31) := (blk_cell BK399.out 7).trans rfl
   have hfs45 := blk_frozen BK399.out 7
   have hns45_0 := NB392_399.out
   have hms45_0 := NB399_392.out
   refine skip_ (w1 := ?_) (by rfl) rfl ?_ ?_
   rotate_left
   ·go_simp
    rfl
   refine hK.out _ _ ?_
   clear hK K
   refine done_ (done_of HT_.out (by kernel_rfl)) ?_
   try go_wp2
   go_roundg k1
   case measure => have := HK1.out; omega
   case rel => exact ⟨(wrap64 (x12_1 + 1)), (y412), (y420), (.slice Ao42 y412.length co42), (.slice Ao44 y420.length co44), (by first | rfl | (simp; done) | (simp [*]; done)), H', ⟨by have := HK1.out; omega⟩, ⟨by (with_reducible repeat (first | apply Kd.V_alloc | apply Kd.V_drewN | apply Kd.V_drew)); exact Kd.V_mono (Kd.V_far (p := ⟨gb399, 7, none⟩) (Kd.V_far (p := ⟨gb399, 6, none⟩) (Kd.V_mono HO_1.out (fun k_ hk => (⟨hk, hk.1.2.2.2.2.2.2⟩ : _ ∧ k_ ≠ gb399))) (fun _ hk => hk.2) (.slice Ao42 y412.length co42)) (fun _ hk => hk.2) (.slice Ao44 y420.length co44)) (fun _ hk => ⟨hk.1.1.1, ⟨hk.1.1.2.1, ⟨hk.1.1.2.2.2.1, ⟨hk.1.2, ⟨hk.1.1.2.2.2.2.2.1, hk.1.1.2.2.2.2.2.2⟩⟩⟩⟩⟩)⟩, ⟨by (with_reducible repeat (first | apply Kd.R_alloc | apply Kd.R_drewN | apply Kd.R_drew)); exact Kd.R_mono (Kd.R_far (p := ⟨gb399, 7, none⟩) (Kd.R_far (p := ⟨gb399, 6, none⟩) (Kd.R_types HO_11.out BK399.out (by decide)) (fun _ hk => hk.2) (.slice Ao42 y412.length co42)) (fun _ hk => hk.2) (.slice Ao44 y420.length co44)) (fun _ hk => hk.1)⟩, ⟨by (with_reducible repeat (first | apply Kd.R_alloc | apply Kd.R_drewN | apply Kd.R_drew)); exact Kd.R_mono (Kd.R_far (p := ⟨gb399, 7, none⟩) (Kd.R_far (p := ⟨gb399, 6, none⟩) (Kd.R_types HO414.out BK399.out (by decide)) (fun _ hk => hk.2) (.slice Ao42 y412.length co42)) (fun _ hk => hk.2) (.slice Ao44 y420.length co44)) (fun _ hk => hk.1.1)⟩, ⟨by (with_reducible repeat (first | apply Kd.N_alloc | apply Kd.N_drewN | apply Kd.N_drew)); exact Kd.N_mono (Kd.N_far (p := ⟨gb399, 7, none⟩) (Kd.N_far (p := ⟨gb399, 6, none⟩) (Kd.N_mono HO422.out (fun k_ hk => (⟨hk, hk.2.2.2.2.2⟩ : _ ∧ k_ ≠ gb399))) (fun _ hk => hk.2) (.slice Ao42 y412.length co42)) (fun _ hk => hk.2) (.slice Ao44 y420.length co44)) (fun _ hk => ⟨hk.1.1, ⟨hk.1.2.1, ⟨hk.1.2.2.2.1, ⟨hk.1.2.2.2.2.1, hk.1.2.2.2.2.2⟩⟩⟩⟩)⟩, ⟨by (with_reducible repeat (first | refine blk_drewN ?_ _ | refine blk_drew ?_ | refine blk_alloc ?_ _)); refine blk_far ?_ NB392_399.out _; (with_reducible repeat (first | refine blk_drewN ?_ _ | refine blk_drew ?_ | refine blk_alloc ?_ _)); refine blk_far ?_ NB392_399.out _; (with_reducible repeat (first | refine blk_drewN ?_ _ | refine blk_drew ?_ | refine blk_alloc ?_ _)); exact BK392.out⟩, ⟨by (with_reducible repeat (first | refine blk_drewN ?_ _ | refine blk_drew ?_ | refine blk_alloc ?_ _)); refine blk_put (cs := #[.int .i64 7, .bool false, .bool false, .slice none 0 0, .int .i64 0, .string (⟨#[]⟩ : ByteArray), .slice Ao42 y412.length co42, .slice Ao31 x400007_1.length co31]) ?_ 7 _ rfl; (with_reducible repeat (first | refine blk_drewN ?_ _ | refine blk_drew ?_ | refine blk_alloc ?_ _)); refine blk_put (cs := #[.int .i64 7, .bool false, .bool false, .slice none 0 0, .int .i64 0, .string (⟨#[]⟩ : ByteArray), .slice Ao30 x400006_1.length co30, .slice Ao31 x400007_1.length co31]) ?_ 6 _ rfl; (with_reducible repeat (first | refine blk_drewN ?_ _ | refine blk_drew ?_ | refine blk_alloc ?_ _)); exact BK399.out⟩, ⟨by repeat (first | (with_reducible first | exact HB.out | apply below_alloc | apply pw_below_drewN | apply below_drew1 | refine below_set ?_ GE392.out | refine below_set ?_ GE399.out) | exact HB.out)⟩⟩
end Go.Proofs.Ytpamgedmgjfjjaa.M
