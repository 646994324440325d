/-
Lemmas for OrderAll, for every input they speak of: M12.
-/
import Derived.Test.YtpamgedmgjfjjaaKOrderAll03
import Derived.Test.YtpamgedmgjfjjaaKOrderAll11
import Derived.Test.YtpamgedmgjfjjaaKOrderAll13
namespace Go.Proofs.Ytpamgedmgjfjjaa.M
open Go.RowKit Go.Proofs.YtpamgedmgjfjjaaW.PrintWords Go.Proofs.YtpamgedmgjfjjaaW.PrintLast Go.Proofs.YtpamgedmgjfjjaaW.PrintMore
attribute [local go_sem] max2_int min2_int max_two min_two max_three min_three max_four min_four
set_option linter.unusedVariables false
set_option linter.unusedSimpArgs false
mutual
def erratumlaw00_Tree.l0 : Nat → Int → Int → Bool → Bool → List Int → Int → ByteArray → List ByteArray → List (S50) → Int → Bool → Bool → List Int → Int → ByteArray → List ByteArray → List (S50) → Option (Int × Bool × Bool × List Int × Int × ByteArray × List ByteArray × (List (S50)))
 | 0, _, _, _, _, _, _, _, _, _, _, _, _, _, _, _, _, _ => none
 | k + 1, x4, x283000, x283001, x283002, x283003, x283004, x283005, x283006, x283007, x293000, x293001, x293002, x293003, x293004, x293005, x293006, x293007 => if x4 < (x283007.length : Int) then (if 0 ≤ x4 then ((erratumlaw00_Tree.f k ((rd_T50 x283007 x4).f0) ((rd_T50 x283007 x4).f1) ((rd_T50 x283007 x4).f2.f0) ((rd_T50 x283007 x4).f2.f1) ((rd_T50 x283007 x4).f2.f2) ((rd_T50 x283007 x4).f3) ((rd_T50 x283007 x4).f4) ((rd_T50 x283007 x4).f5)).bind fun bt294 => (if x293007.length < 1172812402961 then (erratumlaw00_Tree.l0 k (wrap64 (x4 + 1)) x283000 x283001 x283002 x283003 x283004 x283005 x283006 x283007 x293000 x293001 x293002 x293003 x293004 x293005 x293006 (x293007 ++ [(⟨bt294.1, bt294.2.1, (⟨bt294.2.2.1, bt294.2.2.2.1, bt294.2.2.2.2.1⟩ : S48), bt294.2.2.2.2.2.1, bt294.2.2.2.2.2.2.1, bt294.2.2.2.2.2.2.2⟩ : S50)])) else (none))) else (none)) else (some (x293000, x293001, x293002, x293003, x293004, x293005, x293006, x293007))
def erratumlaw00_Tree.f : Nat → Int → Bool → Bool → List Int → Int → ByteArray → List ByteArray → List (S50) → Option (Int × Bool × Bool × List Int × Int × ByteArray × List ByteArray × (List (S50)))
 | 0, _, _, _, _, _, _, _, _ => none
 | k + 1, a0_0, a0_1, a0_2, l0_3, a0_4, a0_5, l0_6, l0_7 => (erratumlaw00_Num.f a0_2 l0_3 a0_4).bind fun bt284 => ((erratumlaw00_Strings.f l0_6).bind fun t289 => (erratumlaw00_Tree.l0 k 0 a0_0 a0_1 a0_2 l0_3 a0_4 a0_5 l0_6 l0_7 a0_0 a0_1 bt284.1 bt284.2.1 bt284.2.2 a0_5 t289 ([] : List (S50))))
end
theorem erratumlaw00_Tree.mono_l : ∀ k, (∀ y0 y1 y2 y3 y4 y5 y6 y7, LeO (erratumlaw00_Tree.f k y0 y1 y2 y3 y4 y5 y6 y7) (erratumlaw00_Tree.f (k + 1) y0 y1 y2 y3 y4 y5 y6 y7)) ∧ (∀ y0 y1 y2 y3 y4 y5 y6 y7 y8 y9 y10 y11 y12 y13 y14 y15 y16, LeO (erratumlaw00_Tree.l0 k y0 y1 y2 y3 y4 y5 y6 y7 y8 y9 y10 y11 y12 y13 y14 y15 y16) (erratumlaw00_Tree.l0 (k + 1) y0 y1 y2 y3 y4 y5 y6 y7 y8 y9 y10 y11 y12 y13 y14 y15 y16))
 | 0 => ⟨fun _ _ _ _ _ _ _ _ r h => by simp [erratumlaw00_Tree.f] at h, fun _ _ _ _ _ _ _ _ _ _ _ _ _ _ _ _ _ r h => by simp [erratumlaw00_Tree.l0] at h⟩
 | k + 1 => by
  obtain ⟨ih0, ih1⟩ := erratumlaw00_Tree.mono_l k
  refine ⟨?_, ?_⟩
  ·intro y0 y1 y2 y3 y4 y5 y6 y7
   unfold erratumlaw00_Tree.f
   repeat' first
   | (with_reducible exact ih0 _ _ _ _ _ _ _ _)
   | (with_reducible exact ih1 _ _ _ _ _ _ _ _ _ _ _ _ _ _ _ _ _)
   | (with_reducible exact LeO.refl _)
   | (with_reducible exact LeO.none _)
   | (with_reducible refine LeO.ite ?_ ?_)
   | (with_reducible refine LeO.bind ?_ (fun _ => ?_))
   | exact ih0 _ _ _ _ _ _ _ _
   | exact ih1 _ _ _ _ _ _ _ _ _ _ _ _ _ _ _ _ _
   | exact LeO.none _
   | refine LeO.ite ?_ ?_
   | refine LeO.bind ?_ (fun _ => ?_)
  ·intro y0 y1 y2 y3 y4 y5 y6 y7 y8 y9 y10 y11 y12 y13 y14 y15 y16
   unfold erratumlaw00_Tree.l0
   repeat' first
   | (with_reducible exact ih0 _ _ _ _ _ _ _ _)
   | (with_reducible exact ih1 _ _ _ _ _ _ _ _ _ _ _ _ _ _ _ _ _)
   | (with_reducible exact LeO.refl _)
   | (with_reducible exact LeO.none _)
   | (with_reducible refine LeO.ite ?_ ?_)
   | (with_reducible refine LeO.bind ?_ (fun _ => ?_))
   | exact ih0 _ _ _ _ _ _ _ _
   | exact ih1 _ _ _ _ _ _ _ _ _ _ _ _ _ _ _ _ _
   | exact LeO.none _
   | refine LeO.ite ?_ ?_
   | refine LeO.bind ?_ (fun _ => ?_)
theorem erratumlaw00_Tree.mono : ∀ a0 a1 a2 a3 a4 a5 a6 a7 k, LeO (erratumlaw00_Tree.f k a0 a1 a2 a3 a4 a5 a6 a7) (erratumlaw00_Tree.f (k + 1) a0 a1 a2 a3 a4 a5 a6 a7) := by
 intro a0 a1 a2 a3 a4 a5 a6 a7 k
 obtain ⟨ih0, ih1⟩ := erratumlaw00_Tree.mono_l k
 exact ih0 a0 a1 a2 a3 a4 a5 a6 a7
def erratumlaw00_Tree.T1 : Bool × List (List Nat × List Nat) := (true, [([], []), ([0], [0]), ([], []), ([2], [2]), ([], []), ([4], [4]), ([5], [5]), ([], []), ([7], [7]), ([], []), ([9], [9]), ([10, 6], [10]), ([1, 3, 6, 8, 11], [1, 3, 6, 8, 11]), ([], []), ([13, 12, 11, 0, 1, 2, 3, 4, 5, 6, 7, 8, 9, 10, 11, 12, 13], [12, 13])])
def erratumlaw00_Tree.B1 : List Nat := [0, 1, 0, 4, 0, 16, 48, 0, 128, 0, 512, 1648, 4095, 0, 16383]
theorem erratumlaw00_Tree.tab1 : rtab .any (opsOf Try.f42 1) = erratumlaw00_Tree.T1 := by kernel_rfl
theorem erratumlaw00_Tree.bits1 : waitsOk erratumlaw00_Tree.T1.2 erratumlaw00_Tree.B1 = true := by kernel_rfl
def erratumlaw00_Tree.T5 : Bool × List (List Nat × List Nat) := (true, [([], []), ([0], [0]), ([], []), ([2], [2]), ([], []), ([3, 4], [3, 4]), ([5], [5]), ([6], [6]), ([7], [7]), ([1, 8, 7], [1, 8]), ([0, 1, 2, 3, 4, 5, 6, 7, 8, 9], []), ([10, 9, 9, 0, 1, 2, 3, 4, 5, 6, 7, 8, 9], [9, 10])])
def erratumlaw00_Tree.B5 : List Nat := [0, 1, 0, 4, 0, 28, 60, 124, 252, 511, 1023, 2047]
theorem erratumlaw00_Tree.tab5 : rtab .any (opsOf Try.f42 5) = erratumlaw00_Tree.T5 := by kernel_rfl
theorem erratumlaw00_Tree.bits5 : waitsOk erratumlaw00_Tree.T5.2 erratumlaw00_Tree.B5 = true := by kernel_rfl
set_option maxHeartbeats 8000000 in
set_option maxRecDepth 100000 in
theorem erratumlaw00_Tree.calls (k : Nat) : ∀ (a0_0 : Int) (a0_1 : Bool) (a0_2 : Bool) (A0_3 : Option Addr) (c0_3 : Nat) (l0_3 : List Int) (a0_4 : Int) (a0_5 : ByteArray) (A0_6 : Option Addr) (c0_6 : Nat) (l0_6 : List ByteArray) (A0_7 : Option Addr) (c0_7 : Nat) (l0_7 : List (S50)) (r1 : Int) (r2 : Bool) (r3 : Bool) (r4 : List Int) (r5 : Int) (r6 : ByteArray) (r7 : List ByteArray) (r8 : List (S50)) (w : World) (hr0_3 : Kd.C (Kd.int .u32) w A0_3 l0_3.length l0_3) (hc0_3 : l0_3.length ≤ c0_3) (hr0_6 : Kd.C Kd.string w A0_6 l0_6.length l0_6) (hc0_6 : l0_6.length ≤ c0_6) (hr0_7 : Kd.C k50 w A0_7 l0_7.length l0_7) (hc0_7 : l0_7.length ≤ c0_7) (h : erratumlaw00_Tree.f k a0_0 a0_1 a0_2 l0_3 a0_4 a0_5 l0_6 l0_7 = some (r1, r2, r3, r4, r5, r6, r7, r8)),
  Calls Try.prog 42 #[.agg #[.int .i64 a0_0, .bool a0_1, .bool a0_2, .slice A0_3 l0_3.length c0_3, .int .i64 a0_4, .string a0_5, .slice A0_6 l0_6.length c0_6, .slice A0_7 l0_7.length c0_7]] w fun e w' => ∃ v3_ v6_ v7_ : Value, e = .returned (.agg #[.int .i64 r1, .bool r2, .bool r3, v3_, .int .i64 r5, .string r6, v6_, v7_]) ∧ Kd.R (Kd.int .u32) 78 w' w.heap.size (fun _ => True) v3_ r4 ∧ Kd.R Kd.string 9 w' w.heap.size (fun _ => True) v6_ r7 ∧ Kd.R k50 50 w' w.heap.size (fun k_ => some k_ ≠ (v3_ : Value).ownBlock ∧ some k_ ≠ (v6_ : Value).ownBlock) v7_ r8 ∧ Below w.heap.size w w' := by
 induction k using Nat.strongRecOn with
 | _ k ih =>
 intro a0_0 a0_1 a0_2 A0_3 c0_3 l0_3 a0_4 a0_5 A0_6 c0_6 l0_6 A0_7 c0_7 l0_7 r1 r2 r3 r4 r5 r6 r7 r8 w hr0_3 hc0_3 hr0_6 hc0_6 hr0_7 hc0_7 h
 cases k with
 | zero => exact absurd h (by simp [erratumlaw00_Tree.f])
 | succ k =>
 simp only [erratumlaw00_Tree.f] at h
 have hu50 := Try.underlying50
 have hu48 := Try.underlying48
 have HR0_3 := Aside0.mk hr0_3
 have HC0_3 := Aside0.mk hc0_3
 clear hr0_3 hc0_3
 have HR0_6 := Aside0.mk hr0_6
 have HC0_6 := Aside0.mk hc0_6
 clear hr0_6 hc0_6
 have HR0_7 := Aside0.mk hr0_7
 have HC0_7 := Aside0.mk hc0_7
 clear hr0_7 hc0_7
 have HB := Aside0.mk (Below.refl w.heap.size w)
 have H : ((erratumlaw00_Num.f a0_2 l0_3 a0_4).bind fun bt284 => ((erratumlaw00_Strings.f l0_6).bind fun t289 => (erratumlaw00_Tree.l0 k 0 a0_0 a0_1 a0_2 l0_3 a0_4 a0_5 l0_6 l0_7 a0_0 a0_1 bt284.1 bt284.2.1 bt284.2.2 a0_5 t289 ([] : List (S50))))) = some (r1, r2, r3, r4, r5, r6, r7, r8) := h
 clear h
 replace H := Option.bind_eq_some_iff.mp H
 obtain ⟨⟨t284, t285, t288⟩, A20, H⟩ := H
 replace H : ((erratumlaw00_Strings.f l0_6).bind fun t289 => (erratumlaw00_Tree.l0 k 0 a0_0 a0_1 a0_2 l0_3 a0_4 a0_5 l0_6 l0_7 a0_0 a0_1 t284 t285 t288 a0_5 t289 ([] : List (S50)))) = some (r1, r2, r3, r4, r5, r6, r7, r8) := H
 have A2 := Aside0.mk A20
 clear A20
 replace H := Option.bind_eq_some_iff.mp H
 obtain ⟨t289, A30, H⟩ := H
 replace H : (erratumlaw00_Tree.l0 k 0 a0_0 a0_1 a0_2 l0_3 a0_4 a0_5 l0_6 l0_7 a0_0 a0_1 t284 t285 t288 a0_5 t289 ([] : List (S50))) = some (r1, r2, r3, r4, r5, r6, r7, r8) := H
 have A3 := Aside0.mk A30
 clear A30
 have H' := Aside0.mk H
 clear H
 go_enter Try.func42, Try.ntmps42
 try go_wp2_with (first | ((with_reducible refine gate_dst (N := 1) rfl ?_); refine box_event ?hg (N := 1) ?hd (cs := #[.int .i64 a0_0, .bool a0_1, .bool a0_2, .slice A0_3 l0_3.length c0_3, .int .i64 a0_4, .string a0_5, .slice A0_6 l0_6.length c0_6, .slice A0_7 l0_7.length c0_7]) (t := 50) ?hr ?_; (case hd => rfl); (case hg => rfl); (case hr => first | (go_simp; done) | (go_simp; rfl)); intro gb282 hg w4 hbox hb; have n0_ := Aside0.mk (below_step (by repeat (first | (with_reducible first | exact HB.out | apply below_alloc | apply pw_below_drewN | apply below_drew1) | exact HB.out)) hb); have n1_ := Aside0.mk (hbox); have n2_ := Aside0.mk ((by rw [hg]; exact (below_size (by repeat (first | (with_reducible first | exact HB.out | apply below_alloc | apply pw_below_drewN | apply below_drew1) | exact HB.out))) : w.heap.size ≤ gb282)); have n3_ := Aside0.mk ((by rw [hg]; exact (below_size (by repeat (first | (with_reducible first | exact HB.out | apply below_alloc | apply pw_below_drewN | apply below_drew1) | exact HB.out))) : w.heap.size ≤ gb282)); clear HB; have HB := n0_; have BK282 := n1_; have GW282 := n2_; have GE282 := n3_; clear n0_ n1_ n2_ n3_; clear hb hbox hg) | ((with_reducible refine gate_dst (N := 2) rfl ?_); refine box_event ?hg (N := 2) ?hd (cs := #[.int .i64 0, .bool false, .bool false, .slice none 0 0, .int .i64 0, .string (⟨#[]⟩ : ByteArray), .slice none 0 0, .slice none 0 0]) (t := 50) ?hr ?_; (case hd => rfl); (case hg => rfl); (case hr => first | (go_simp; done) | (go_simp; rfl)); intro gb283 hg w5 hbox hb; have n0_ := Aside0.mk (blk_below (g := gb282) (o := .cells #[.int .i64 a0_0, .bool a0_1, .bool a0_2, .slice A0_3 l0_3.length c0_3, .int .i64 a0_4, .string a0_5, .slice A0_6 l0_6.length c0_6, .slice A0_7 l0_7.length c0_7] 50 (0, 0)) (by (with_reducible repeat (first | refine blk_drewN ?_ _ | refine blk_drew ?_ | refine blk_alloc ?_ _)); exact BK282.out) hb); have n1_ := Aside0.mk (below_step (by repeat (first | (with_reducible first | exact HB.out | apply below_alloc | apply pw_below_drewN | apply below_drew1 | refine below_set ?_ GE282.out) | exact HB.out)) hb); have n2_ := Aside0.mk (hbox); have n3_ := Aside0.mk ((by rw [hg]; exact (below_size (by repeat (first | (with_reducible first | exact HB.out | apply below_alloc | apply pw_below_drewN | apply below_drew1 | refine below_set ?_ GE282.out) | exact HB.out))) : w.heap.size ≤ gb283)); have n4_ := Aside0.mk ((by rw [hg]; exact (below_size (by repeat (first | (with_reducible first | exact HB.out | apply below_alloc | apply pw_below_drewN | apply below_drew1 | refine below_set ?_ GE282.out) | exact HB.out))) : w.heap.size ≤ gb283)); have n5_ := Aside0.mk ((by rw [hg]; exact Nat.ne_of_lt (blk_lt (g := gb282) (o := .cells #[.int .i64 a0_0, .bool a0_1, .bool a0_2, .slice A0_3 l0_3.length c0_3, .int .i64 a0_4, .string a0_5, .slice A0_6 l0_6.length c0_6, .slice A0_7 l0_7.length c0_7] 50 (0, 0)) (by (with_reducible repeat (first | refine blk_drewN ?_ _ | refine blk_drew ?_ | refine blk_alloc ?_ _)); exact BK282.out)) : gb282 ≠ gb283)); have n6_ := Aside0.mk ((by rw [hg]; exact Nat.ne_of_gt (blk_lt (g := gb282) (o := .cells #[.int .i64 a0_0, .bool a0_1, .bool a0_2, .slice A0_3 l0_3.length c0_3, .int .i64 a0_4, .string a0_5, .slice A0_6 l0_6.length c0_6, .slice A0_7 l0_7.length c0_7] 50 (0, 0)) (by (with_reducible repeat (first | refine blk_drewN ?_ _ | refine blk_drew ?_ | refine blk_alloc ?_ _)); exact BK282.out)) : gb283 ≠ gb282)); clear BK282; clear HB; have BK282 := n0_; have HB := n1_; have BK283 := n2_; have GW283 := n3_; have GE283 := n4_; have NB282_283 := n5_; have NB283_282 := n6_; clear n0_ n1_ n2_ n3_ n4_ n5_ n6_; clear hb hbox hg))
 have n0_ := Aside0.mk (blk_drew BK282.out)
 have n1_ := Aside0.mk (blk_drew BK283.out)
 have n2_ := Aside0.mk (below_drew1 HB.out)
 clear BK282
 clear BK283
 clear HB
 have BK282 := n0_
 have BK283 := n1_
 have HB := n2_
 clear n0_ n1_ n2_
 refine start_ (n := 15) (S := fun w' => w'.cell? ⟨gb282, 0, none⟩ = some (.int .i64 a0_0) ∧ w'.cell? ⟨gb282, 1, none⟩ = some (.bool a0_1) ∧ w'.cell? ⟨gb282, 2, none⟩ = some (.bool a0_2) ∧ w'.cell? ⟨gb282, 3, none⟩ = some (.slice A0_3 l0_3.length c0_3) ∧ w'.cell? ⟨gb282, 4, none⟩ = some (.int .i64 a0_4) ∧ w'.cell? ⟨gb282, 5, none⟩ = some (.string a0_5) ∧ w'.cell? ⟨gb282, 6, none⟩ = some (.slice A0_6 l0_6.length c0_6) ∧ w'.cell? ⟨gb282, 7, none⟩ = some (.slice A0_7 l0_7.length c0_7)) (ds := []) #[Z, Z, Z, Z, Z, Z, Z, Z, Z, Z, Z, Z, Z, Z, Z] (by kernel_rfl) rfl rfl ⟨(blk_cell BK282.out 0).trans rfl, (blk_cell BK282.out 1).trans rfl, (blk_cell BK282.out 2).trans rfl, (blk_cell BK282.out 3).trans rfl, (blk_cell BK282.out 4).trans rfl, (blk_cell BK282.out 5).trans rfl, (blk_cell BK282.out 6).trans rfl, (blk_cell BK282.out 7).trans rfl⟩ (fun hHeld => ?_); refine with_tabW erratumlaw00_Tree.tab1 erratumlaw00_Tree.bits1 (fun HT_ HW_ => ?_)
 generalize w5.drew = w6 at BK282 BK283 HB hHeld ⊢
 refine pure_ (i := 0) (N := some 5) (v := ?_) (a' := ?_) #[Y, Z, Z, Z, Z, Z, Z, Z, Z, Z, Z, Z, Z, Z, Z] rfl rfl (any_of HT_.out (by kernel_rfl)) (fun _ _ _ h => h) (Or.inl ⟨by rfl, ?_⟩) ?_ ?_
 rotate_left
 ·intro w'
  go_simp
  with_reducible rfl
 rotate_left
 ·simp only [Act.put, s0_, s1_, s2_, i64_w, i32_w]
  rfl
 refine pure_ (i := 2) (N := some 7) (v := ?_) (a' := ?_) #[Y, Z, Y, Z, Z, Z, Z, Z, Z, Z, Z, Z, Z, Z, Z] rfl rfl (any_of HT_.out (by kernel_rfl)) (fun _ _ _ h => h) (Or.inl ⟨by rfl, ?_⟩) ?_ ?_
 rotate_left
 ·intro w'
  go_simp
  with_reducible rfl
 rotate_left
 ·simp only [Act.put, s0_, s1_, s2_, i64_w, i32_w]
  rfl
 refine pure_ (i := 4) (N := some 9) (v := ?_) (a' := ?_) #[Y, Z, Y, Z, Y, Z, Z, Z, Z, Z, Z, Z, Z, Z, Z] rfl rfl (any_of HT_.out (by kernel_rfl)) (fun _ _ _ h => h) (Or.inl ⟨by rfl, ?_⟩) ?_ ?_
 rotate_left
 ·intro w'
  go_simp
  with_reducible rfl
 rotate_left
 ·simp only [Act.put, s0_, s1_, s2_, i64_w, i32_w]
  rfl
 refine pure_ (i := 7) (N := some 12) (v := ?_) (a' := ?_) #[Y, Z, Y, Z, Y, Z, Z, Y, Z, Z, Z, Z, Z, Z, Z] rfl rfl (any_of HT_.out (by kernel_rfl)) (fun _ _ _ h => h) (Or.inl ⟨by rfl, ?_⟩) ?_ ?_
 rotate_left
 ·intro w'
  go_simp
  with_reducible rfl
 rotate_left
 ·simp only [Act.put, s0_, s1_, s2_, i64_w, i32_w]
  rfl
 refine pure_ (i := 9) (N := some 14) (v := ?_) (a' := ?_) #[Y, Z, Y, Z, Y, Z, Z, Y, Z, Y, Z, Z, Z, Z, Z] rfl rfl (any_of HT_.out (by kernel_rfl)) (fun _ _ _ h => h) (Or.inl ⟨by rfl, ?_⟩) ?_ ?_
 rotate_left
 ·intro w'
  go_simp
  with_reducible rfl
 rotate_left
 ·simp only [Act.put, s0_, s1_, s2_, i64_w, i32_w]
  rfl
 refine take_ (i := 1) (N := some 6) (v := ?_) (a' := ?_) #[Y, Y, Y, Z, Y, Z, Z, Y, Z, Y, Z, Z, Z, Z, Z] rfl rfl (take_ofW HT_.out HW_.out (by kernel_rfl)) (fun _ _ _ h => h) (Or.inl ⟨by rfl, ?_⟩) hHeld ?_ ?_
 rotate_left
 ·rintro w' ⟨s0, s1, s2, s3, s4, s5, s6, s7⟩
  go_simp
  with_reducible rfl
 rotate_left
 ·simp only [Act.put, s0_, s1_, s2_, i64_w, i32_w]
  rfl
 refine take_ (i := 3) (N := some 8) (v := ?_) (a' := ?_) #[Y, Y, Y, Y, Y, Z, Z, Y, Z, Y, Z, Z, Z, Z, Z] rfl rfl (take_ofW HT_.out HW_.out (by kernel_rfl)) (fun _ _ _ h => h) (Or.inl ⟨by rfl, ?_⟩) hHeld ?_ ?_
 rotate_left
 ·rintro w' ⟨s0, s1, s2, s3, s4, s5, s6, s7⟩
  go_simp
  with_reducible rfl
 rotate_left
 ·simp only [Act.put, s0_, s1_, s2_, i64_w, i32_w]
  rfl
 refine take_ (i := 5) (N := some 10) (v := ?_) (a' := ?_) #[Y, Y, Y, Y, Y, Y, Z, Y, Z, Y, Z, Z, Z, Z, Z] rfl rfl (take_ofW HT_.out HW_.out (by kernel_rfl)) (fun _ _ _ h => h) (Or.inl ⟨by rfl, ?_⟩) hHeld ?_ ?_
 rotate_left
 ·rintro w' ⟨s0, s1, s2, s3, s4, s5, s6, s7⟩
  go_simp
  with_reducible rfl
 rotate_left
 ·simp only [Act.put, s0_, s1_, s2_, i64_w, i32_w]
  rfl
 refine take_ (i := 8) (N := some 13) (v := ?_) (a' := ?_) #[Y, Y, Y, Y, Y, Y, Z, Y, Y, Y, Z, Z, Z, Z, Z] rfl rfl (take_ofW HT_.out HW_.out (by kernel_rfl)) (fun _ _ _ h => h) (Or.inl ⟨by rfl, ?_⟩) hHeld ?_ ?_
 rotate_left
 ·rintro w' ⟨s0, s1, s2, s3, s4, s5, s6, s7⟩
  go_simp
  with_reducible rfl
 rotate_left
 ·simp only [Act.put, s0_, s1_, s2_, i64_w, i32_w]
  rfl
 refine take_ (i := 10) (N := some 15) (v := ?_) (a' := ?_) #[Y, Y, Y, Y, Y, Y, Z, Y, Y, Y, Y, Z, Z, Z, Z] rfl rfl (take_ofW HT_.out HW_.out (by kernel_rfl)) (fun _ _ _ h => h) (Or.inl ⟨by rfl, ?_⟩) hHeld ?_ ?_
 rotate_left
 ·rintro w' ⟨s0, s1, s2, s3, s4, s5, s6, s7⟩
  go_simp
  with_reducible rfl
 rotate_left
 ·simp only [Act.put, s0_, s1_, s2_, i64_w, i32_w]
  rfl
 refine join_ (σ := Value × Value × Nat) 1 #[Y, Y, Y, Y, Y, Y, Y, Y, Y, Y, Y, Y, Y, Y, Z] (fun s_ => [(11, .agg #[.bool t284, s_.1, .int .i64 t288]), (16, s_.2.1), (3, .pointer (some ⟨s_.2.2, 0, none⟩)), (17, .agg #[.int .i64 a0_0, .bool a0_1, .bool t284, s_.1, .int .i64 t288, .string a0_5, s_.2.1, .slice none 0 0])]) (fun s_ w' => (w'.cell? ⟨gb282, 0, none⟩ = some (.int .i64 a0_0) ∧ w'.cell? ⟨gb282, 1, none⟩ = some (.bool a0_1) ∧ w'.cell? ⟨gb282, 2, none⟩ = some (.bool a0_2) ∧ w'.cell? ⟨gb282, 3, none⟩ = some (.slice A0_3 l0_3.length c0_3) ∧ w'.cell? ⟨gb282, 4, none⟩ = some (.int .i64 a0_4) ∧ w'.cell? ⟨gb282, 5, none⟩ = some (.string a0_5) ∧ w'.cell? ⟨gb282, 6, none⟩ = some (.slice A0_6 l0_6.length c0_6) ∧ w'.cell? ⟨gb282, 7, none⟩ = some (.slice A0_7 l0_7.length c0_7)) ∧ (Kd.R (Kd.int .u32) 78 w' w.heap.size (fun _ => True) s_.1 t285) ∧ (Kd.R Kd.string 9 w' w.heap.size (fun _ => True) s_.2.1 t289) ∧ (w'.heap[gb282]? = some (.cells #[.int .i64 a0_0, .bool a0_1, .bool a0_2, .slice A0_3 l0_3.length c0_3, .int .i64 a0_4, .string a0_5, .slice A0_6 l0_6.length c0_6, .slice A0_7 l0_7.length c0_7] 50 (0, 0))) ∧ (w'.heap[gb283]? = some (.cells #[.int .i64 0, .bool false, .bool false, .slice none 0 0, .int .i64 0, .string (⟨#[]⟩ : ByteArray), .slice none 0 0, .slice none 0 0] 50 (0, 0))) ∧ (w'.heap[s_.2.2]? = some (.cells #[.int .i64 0, .bool false, .bool false, .slice none 0 0, .int .i64 0, .string (⟨#[]⟩ : ByteArray), .slice none 0 0, .slice none 0 0] 50 (0, 0))) ∧ (w.heap.size ≤ s_.2.2) ∧ (w.heap.size ≤ s_.2.2) ∧ (gb282 ≠ s_.2.2) ∧ (s_.2.2 ≠ gb282) ∧ (gb283 ≠ s_.2.2) ∧ (s_.2.2 ≠ gb283) ∧ (Below w.heap.size w w')) ?_ ?_
 rotate_left
 ·intro hCont
  refine two_ (i := 6) (j := 13) (Ni := some 11) (Nj := some 3) #[Y, Y, Y, Y, Y, Y, Y, Y, Y, Y, Y, Z, Z, Z, Z] #[Y, Y, Y, Y, Y, Y, Z, Y, Y, Y, Y, Z, Z, Y, Z] rfl rfl rfl rfl (two_of HT_.out (by kernel_rfl)) (by decide) (by decide) (fun K hK => ?_) (fun K hK => ?_)
  ·skip
   refine goes_ Try.func51 (by kernel_rfl) rfl #[.agg #[.bool a0_2, .slice A0_3 l0_3.length c0_3, .int .i64 a0_4]] (by rfl) rfl rfl (by (try simp only [List.map_toArray, List.map_cons, List.map_nil]); first | done | rfl | (simp only [List.length_drop, List.length_take]; rfl)) ?_
   with_reducible refine (erratumlaw00_Num.calls a0_2 _ _ l0_3 a0_4 t284 t285 t288 _ ?side1 ?side2 A2.out).mono ?_
   (case side1 => repeat (first | exact (Kd.C_below HR0_3.out HB.out) | (with_reducible refine Kd.C_alloc ?_ _) | (with_reducible refine Kd.C_drewN ?_ _) | (with_reducible refine Kd.C_drew ?_)))
   (case side2 => exact HC0_3.out)
   rintro e w7 ⟨v286, rfl, ho0, hb⟩
   refine ⟨_, rfl, ?_⟩
   have n0_ := Aside0.mk (Kd.R_lower ho0 (below_size (by repeat (first | (with_reducible first | exact HB.out | apply below_alloc | apply pw_below_drewN | apply below_drew1 | refine below_set ?_ GE282.out | refine below_set ?_ GE283.out) | exact HB.out))))
   have n1_ := Aside0.mk (blk_below (g := gb282) (o := .cells #[.int .i64 a0_0, .bool a0_1, .bool a0_2, .slice A0_3 l0_3.length c0_3, .int .i64 a0_4, .string a0_5, .slice A0_6 l0_6.length c0_6, .slice A0_7 l0_7.length c0_7] 50 (0, 0)) (by (with_reducible repeat (first | refine blk_drewN ?_ _ | refine blk_drew ?_ | refine blk_alloc ?_ _)); exact BK282.out) hb)
   have n2_ := Aside0.mk (blk_below (g := gb283) (o := .cells #[.int .i64 0, .bool false, .bool false, .slice none 0 0, .int .i64 0, .string (⟨#[]⟩ : ByteArray), .slice none 0 0, .slice none 0 0] 50 (0, 0)) (by (with_reducible repeat (first | refine blk_drewN ?_ _ | refine blk_drew ?_ | refine blk_alloc ?_ _)); exact BK283.out) hb)
   have n3_ := Aside0.mk (below_step (by repeat (first | (with_reducible first | exact HB.out | apply below_alloc | apply pw_below_drewN | apply below_drew1 | refine below_set ?_ GE282.out | refine below_set ?_ GE283.out) | exact HB.out)) hb)
   clear BK282
   clear BK283
   clear HB
   have HO287 := n0_
   have BK282 := n1_
   have BK283 := n2_
   have HB := n3_
   clear n0_ n1_ n2_ n3_
   (try clear hb)
   (try clear hb2)
   (try clear hk)
   (try clear hi)
   (try clear ho0)
   refine hK.out _ _ ⟨(blk_cell BK282.out 0).trans rfl, (blk_cell BK282.out 1).trans rfl, (blk_cell BK282.out 2).trans rfl, (blk_cell BK282.out 3).trans rfl, (blk_cell BK282.out 4).trans rfl, (blk_cell BK282.out 5).trans rfl, (blk_cell BK282.out 6).trans rfl, (blk_cell BK282.out 7).trans rfl⟩ (fun hHeld => ?_)
   clear hK K
   refine norm_ (a' := ?_) ?_ ?_
   rotate_left
   ·show Act.put _ (some 11) _ = _
    simp only [Act.put, s0_, s1_, s2_, i64_w, i32_w]
    rfl
   refine two_ (i := 11) (j := 13) (Ni := some 16) (Nj := some 3) #[Y, Y, Y, Y, Y, Y, Y, Y, Y, Y, Y, Y, Z, Z, Z] #[Y, Y, Y, Y, Y, Y, Y, Y, Y, Y, Y, Z, Z, Y, Z] rfl rfl rfl rfl (two_of HT_.out (by kernel_rfl)) (by decide) (by decide) (fun K hK => ?_) (fun K hK => ?_)
   ·skip
    refine goes_ Try.func21 (by kernel_rfl) rfl #[.slice A0_6 l0_6.length c0_6] (by rfl) rfl rfl (by (try simp only [List.map_toArray, List.map_cons, List.map_nil]); first | done | rfl | (simp only [List.length_drop, List.length_take]; rfl)) ?_
    with_reducible refine (erratumlaw00_Strings.calls _ _ l0_6 t289 _ ?side1 ?side2 A3.out).mono ?_
    (case side1 => repeat (first | exact (Kd.C_below HR0_6.out HB.out) | (with_reducible refine Kd.C_alloc ?_ _) | (with_reducible refine Kd.C_drewN ?_ _) | (with_reducible refine Kd.C_drew ?_)))
    (case side2 => exact HC0_6.out)
    rintro e w8 ⟨v290, rfl, ho0, hb⟩
    refine ⟨_, rfl, ?_⟩
    have n0_ := Aside0.mk (Kd.R_below (by (with_reducible repeat (first | apply Kd.R_alloc | apply Kd.R_drewN | apply Kd.R_drew)); exact HO287.out) hb)
    have n1_ := Aside0.mk (Kd.R_lower ho0 (below_size (by repeat (first | (with_reducible first | exact HB.out | apply below_alloc | apply pw_below_drewN | apply below_drew1 | refine below_set ?_ GE282.out | refine below_set ?_ GE283.out) | exact HB.out))))
    have n2_ := Aside0.mk (blk_below (g := gb282) (o := .cells #[.int .i64 a0_0, .bool a0_1, .bool a0_2, .slice A0_3 l0_3.length c0_3, .int .i64 a0_4, .string a0_5, .slice A0_6 l0_6.length c0_6, .slice A0_7 l0_7.length c0_7] 50 (0, 0)) (by (with_reducible repeat (first | refine blk_drewN ?_ _ | refine blk_drew ?_ | refine blk_alloc ?_ _)); exact BK282.out) hb)
    have n3_ := Aside0.mk (blk_below (g := gb283) (o := .cells #[.int .i64 0, .bool false, .bool false, .slice none 0 0, .int .i64 0, .string (⟨#[]⟩ : ByteArray), .slice none 0 0, .slice none 0 0] 50 (0, 0)) (by (with_reducible repeat (first | refine blk_drewN ?_ _ | refine blk_drew ?_ | refine blk_alloc ?_ _)); exact BK283.out) hb)
    have n4_ := Aside0.mk (below_step (by repeat (first | (with_reducible first | exact HB.out | apply below_alloc | apply pw_below_drewN | apply below_drew1 | refine below_set ?_ GE282.out | refine below_set ?_ GE283.out) | exact HB.out)) hb)
    clear HO287
    clear BK282
    clear BK283
    clear HB
    have HO287 := n0_
    have HO291 := n1_
    have BK282 := n2_
    have BK283 := n3_
    have HB := n4_
    clear n0_ n1_ n2_ n3_ n4_
    (try clear hb)
    (try clear hb2)
    (try clear hk)
    (try clear hi)
    (try clear ho0)
    obtain ⟨Ao9, co9, eo9⟩ := Kd.R_slice HO291.out
    (first | subst eo9 | (injection eo9 with f1_ f2_ f3_; have f4_ := f1_.symm; have f5_ := f3_.symm; clear f1_ f2_ f3_; subst f4_; subst f5_))
    obtain ⟨Ao10, co10, eo10⟩ := Kd.R_slice HO287.out
    (first | subst eo10 | (injection eo10 with f1_ f2_ f3_; have f4_ := f1_.symm; have f5_ := f3_.symm; clear f1_ f2_ f3_; subst f4_; subst f5_))
    refine hK.out _ _ ⟨(blk_cell BK282.out 0).trans rfl, (blk_cell BK282.out 1).trans rfl, (blk_cell BK282.out 2).trans rfl, (blk_cell BK282.out 3).trans rfl, (blk_cell BK282.out 4).trans rfl, (blk_cell BK282.out 5).trans rfl, (blk_cell BK282.out 6).trans rfl, (blk_cell BK282.out 7).trans rfl⟩ (fun hHeld => ?_)
    clear hK K
    refine norm_ (a' := ?_) ?_ ?_
    rotate_left
    ·show Act.put _ (some 16) _ = _
     simp only [Act.put, s0_, s1_, s2_, i64_w, i32_w]
     rfl
    refine pure_ (i := 12) (N := some 17) (v := ?_) (a' := ?_) #[Y, Y, Y, Y, Y, Y, Y, Y, Y, Y, Y, Y, Y, Z, Z] rfl rfl (any_of HT_.out (by kernel_rfl)) (fun _ _ _ h => h) (Or.inl ⟨by rfl, ?_⟩) ?_ ?_
    rotate_left
    ·intro w'
     go_simp
     with_reducible rfl
    rotate_left
    ·simp only [Act.put, s0_, s1_, s2_, i64_w, i32_w]
     rfl
    refine one_ (i := 13) (N := some 3) #[Y, Y, Y, Y, Y, Y, Y, Y, Y, Y, Y, Y, Y, Y, Z] rfl rfl (one_of HT_.out (by kernel_rfl)) (by decide) (fun K hK => ?_)
    refine box_step ?hg (N := 3) ?hd (cs := #[.int .i64 0, .bool false, .bool false, .slice none 0 0, .int .i64 0, .string (⟨#[]⟩ : ByteArray), .slice none 0 0, .slice none 0 0]) (t := 50) ?hr ?_; (case hd => rfl); (case hg => rfl); (case hr => first | (go_simp; done) | (go_simp; rfl))
    intro gb292 hg w11 hbox hb
    have n0_ := Aside0.mk (Kd.R_below (by (with_reducible repeat (first | apply Kd.R_alloc | apply Kd.R_drewN | apply Kd.R_drew)); exact HO287.out) hb)
    have n1_ := Aside0.mk (Kd.R_below (by (with_reducible repeat (first | apply Kd.R_alloc | apply Kd.R_drewN | apply Kd.R_drew)); exact HO291.out) hb)
    have n2_ := Aside0.mk (blk_below (g := gb282) (o := .cells #[.int .i64 a0_0, .bool a0_1, .bool a0_2, .slice A0_3 l0_3.length c0_3, .int .i64 a0_4, .string a0_5, .slice A0_6 l0_6.length c0_6, .slice A0_7 l0_7.length c0_7] 50 (0, 0)) (by (with_reducible repeat (first | refine blk_drewN ?_ _ | refine blk_drew ?_ | refine blk_alloc ?_ _)); exact BK282.out) hb)
    have n3_ := Aside0.mk (blk_below (g := gb283) (o := .cells #[.int .i64 0, .bool false, .bool false, .slice none 0 0, .int .i64 0, .string (⟨#[]⟩ : ByteArray), .slice none 0 0, .slice none 0 0] 50 (0, 0)) (by (with_reducible repeat (first | refine blk_drewN ?_ _ | refine blk_drew ?_ | refine blk_alloc ?_ _)); exact BK283.out) hb)
    have n4_ := Aside0.mk (below_step (by repeat (first | (with_reducible first | exact HB.out | apply below_alloc | apply pw_below_drewN | apply below_drew1 | refine below_set ?_ GE282.out | refine below_set ?_ GE283.out) | exact HB.out)) hb)
    have n5_ := Aside0.mk (hbox)
    have n6_ := Aside0.mk ((by rw [hg]; exact (below_size (by repeat (first | (with_reducible first | exact HB.out | apply below_alloc | apply pw_below_drewN | apply below_drew1 | refine below_set ?_ GE282.out | refine below_set ?_ GE283.out) | exact HB.out))) : w.heap.size ≤ gb292))
    have n7_ := Aside0.mk ((by rw [hg]; exact (below_size (by repeat (first | (with_reducible first | exact HB.out | apply below_alloc | apply pw_below_drewN | apply below_drew1 | refine below_set ?_ GE282.out | refine below_set ?_ GE283.out) | exact HB.out))) : w.heap.size ≤ gb292))
    have n8_ := Aside0.mk ((by rw [hg]; exact Nat.ne_of_lt (blk_lt (g := gb282) (o := .cells #[.int .i64 a0_0, .bool a0_1, .bool a0_2, .slice A0_3 l0_3.length c0_3, .int .i64 a0_4, .string a0_5, .slice A0_6 l0_6.length c0_6, .slice A0_7 l0_7.length c0_7] 50 (0, 0)) (by (with_reducible repeat (first | refine blk_drewN ?_ _ | refine blk_drew ?_ | refine blk_alloc ?_ _)); exact BK282.out)) : gb282 ≠ gb292))
    have n9_ := Aside0.mk ((by rw [hg]; exact Nat.ne_of_gt (blk_lt (g := gb282) (o := .cells #[.int .i64 a0_0, .bool a0_1, .bool a0_2, .slice A0_3 l0_3.length c0_3, .int .i64 a0_4, .string a0_5, .slice A0_6 l0_6.length c0_6, .slice A0_7 l0_7.length c0_7] 50 (0, 0)) (by (with_reducible repeat (first | refine blk_drewN ?_ _ | refine blk_drew ?_ | refine blk_alloc ?_ _)); exact BK282.out)) : gb292 ≠ gb282))
    have n10_ := Aside0.mk ((by rw [hg]; exact Nat.ne_of_lt (blk_lt (g := gb283) (o := .cells #[.int .i64 0, .bool false, .bool false, .slice none 0 0, .int .i64 0, .string (⟨#[]⟩ : ByteArray), .slice none 0 0, .slice none 0 0] 50 (0, 0)) (by (with_reducible repeat (first | refine blk_drewN ?_ _ | refine blk_drew ?_ | refine blk_alloc ?_ _)); exact BK283.out)) : gb283 ≠ gb292))
    have n11_ := Aside0.mk ((by rw [hg]; exact Nat.ne_of_gt (blk_lt (g := gb283) (o := .cells #[.int .i64 0, .bool false, .bool false, .slice none 0 0, .int .i64 0, .string (⟨#[]⟩ : ByteArray), .slice none 0 0, .slice none 0 0] 50 (0, 0)) (by (with_reducible repeat (first | refine blk_drewN ?_ _ | refine blk_drew ?_ | refine blk_alloc ?_ _)); exact BK283.out)) : gb292 ≠ gb283))
    clear HO287
    clear HO291
    clear BK282
    clear BK283
    clear HB
    have HO287 := n0_
    have HO291 := n1_
    have BK282 := n2_
    have BK283 := n3_
    have HB := n4_
    have BK292 := n5_
    have GW292 := n6_
    have GE292 := n7_
    have NB282_292 := n8_
    have NB292_282 := n9_
    have NB283_292 := n10_
    have NB292_283 := n11_
    clear n0_ n1_ n2_ n3_ n4_ n5_ n6_ n7_ n8_ n9_ n10_ n11_
    clear hb hbox hg
    refine hK.out _ _ ⟨(blk_cell BK282.out 0).trans rfl, (blk_cell BK282.out 1).trans rfl, (blk_cell BK282.out 2).trans rfl, (blk_cell BK282.out 3).trans rfl, (blk_cell BK282.out 4).trans rfl, (blk_cell BK282.out 5).trans rfl, (blk_cell BK282.out 6).trans rfl, (blk_cell BK282.out 7).trans rfl⟩ (fun hHeld => ?_)
    clear hK K
    refine norm_ (a' := ?_) ?_ ?_
    rotate_left
    ·show Act.put _ (some 3) _ = _
     simp only [Act.put, s0_, s1_, s2_, i64_w, i32_w]
     rfl
    exact norm_ (by simp only [putAll, Act.put, s0_, s1_, s2_]) (hCont (.slice Ao10 t285.length co10, .slice Ao9 t289.length co9, gb292) _ ⟨hHeld, (by (with_reducible repeat (first | apply Kd.R_alloc | apply Kd.R_drewN | apply Kd.R_drew)); exact HO287.out), (by (with_reducible repeat (first | apply Kd.R_alloc | apply Kd.R_drewN | apply Kd.R_drew)); exact HO291.out), (by (with_reducible repeat (first | refine blk_drewN ?_ _ | refine blk_drew ?_ | refine blk_alloc ?_ _)); exact BK282.out), (by (with_reducible repeat (first | refine blk_drewN ?_ _ | refine blk_drew ?_ | refine blk_alloc ?_ _)); exact BK283.out), (by (with_reducible repeat (first | refine blk_drewN ?_ _ | refine blk_drew ?_ | refine blk_alloc ?_ _)); exact BK292.out), GW292.out, GE292.out, NB282_292.out, NB292_282.out, NB283_292.out, NB292_283.out, (by repeat (first | (with_reducible first | exact HB.out | apply below_alloc | apply pw_below_drewN | apply below_drew1 | refine below_set ?_ GE282.out | refine below_set ?_ GE283.out | refine below_set ?_ GE292.out) | exact HB.out))⟩)
   ·skip
    refine box_step ?hg (N := 3) ?hd (cs := #[.int .i64 0, .bool false, .bool false, .slice none 0 0, .int .i64 0, .string (⟨#[]⟩ : ByteArray), .slice none 0 0, .slice none 0 0]) (t := 50) ?hr ?_; (case hd => rfl); (case hg => rfl); (case hr => first | (go_simp; done) | (go_simp; rfl))
    intro gb292 hg w8 hbox hb
    have n0_ := Aside0.mk (Kd.R_below (by (with_reducible repeat (first | apply Kd.R_alloc | apply Kd.R_drewN | apply Kd.R_drew)); exact HO287.out) hb)
    have n1_ := Aside0.mk (blk_below (g := gb282) (o := .cells #[.int .i64 a0_0, .bool a0_1, .bool a0_2, .slice A0_3 l0_3.length c0_3, .int .i64 a0_4, .string a0_5, .slice A0_6 l0_6.length c0_6, .slice A0_7 l0_7.length c0_7] 50 (0, 0)) (by (with_reducible repeat (first | refine blk_drewN ?_ _ | refine blk_drew ?_ | refine blk_alloc ?_ _)); exact BK282.out) hb)
    have n2_ := Aside0.mk (blk_below (g := gb283) (o := .cells #[.int .i64 0, .bool false, .bool false, .slice none 0 0, .int .i64 0, .string (⟨#[]⟩ : ByteArray), .slice none 0 0, .slice none 0 0] 50 (0, 0)) (by (with_reducible repeat (first | refine blk_drewN ?_ _ | refine blk_drew ?_ | refine blk_alloc ?_ _)); exact BK283.out) hb)
    have n3_ := Aside0.mk (below_step (by repeat (first | (with_reducible first | exact HB.out | apply below_alloc | apply pw_below_drewN | apply below_drew1 | refine below_set ?_ GE282.out | refine below_set ?_ GE283.out) | exact HB.out)) hb)
    have n4_ := Aside0.mk (hbox)
    have n5_ := Aside0.mk ((by rw [hg]; exact (below_size (by repeat (first | (with_reducible first | exact HB.out | apply below_alloc | apply pw_below_drewN | apply below_drew1 | refine below_set ?_ GE282.out | refine below_set ?_ GE283.out) | exact HB.out))) : w.heap.size ≤ gb292))
    have n6_ := Aside0.mk ((by rw [hg]; exact (below_size (by repeat (first | (with_reducible first | exact HB.out | apply below_alloc | apply pw_below_drewN | apply below_drew1 | refine below_set ?_ GE282.out | refine below_set ?_ GE283.out) | exact HB.out))) : w.heap.size ≤ gb292))
    have n7_ := Aside0.mk ((by rw [hg]; exact Nat.ne_of_lt (blk_lt (g := gb282) (o := .cells #[.int .i64 a0_0, .bool a0_1, .bool a0_2, .slice A0_3 l0_3.length c0_3, .int .i64 a0_4, .string a0_5, .slice A0_6 l0_6.length c0_6, .slice A0_7 l0_7.length c0_7] 50 (0, 0)) (by (with_reducible repeat (first | refine blk_drewN ?_ _ | refine blk_drew ?_ | refine blk_alloc ?_ _)); exact BK282.out)) : gb282 ≠ gb292))
    have n8_ := Aside0.mk ((by rw [hg]; exact Nat.ne_of_gt (blk_lt (g := gb282) (o := .cells #[.int .i64 a0_0, .bool a0_1, .bool a0_2, .slice A0_3 l0_3.length c0_3, .int .i64 a0_4, .string a0_5, .slice A0_6 l0_6.length c0_6, .slice A0_7 l0_7.length c0_7] 50 (0, 0)) (by (with_reducible repeat (first | refine blk_drewN ?_ _ | refine blk_drew ?_ | refine blk_alloc ?_ _)); exact BK282.out)) : gb292 ≠ gb282))
    have n9_ := Aside0.mk ((by rw [hg]; exact Nat.ne_of_lt (blk_lt (g := gb283) (o := .cells #[.int .i64 0, .bool false, .bool false, .slice none 0 0, .int .i64 0, .string (⟨#[]⟩ : ByteArray), .slice none 0 0, .slice none 0 0] 50 (0, 0)) (by (with_reducible repeat (first | refine blk_drewN ?_ _ | refine blk_drew ?_ | refine blk_alloc ?_ _)); exact BK283.out)) : gb283 ≠ gb292))
    have n10_ := Aside0.mk ((by rw [hg]; exact Nat.ne_of_gt (blk_lt (g := gb283) (o := .cells #[.int .i64 0, .bool false, .bool false, .slice none 0 0, .int .i64 0, .string (⟨#[]⟩ : ByteArray), .slice none 0 0, .slice none 0 0] 50 (0, 0)) (by (with_reducible repeat (first | refine blk_drewN ?_ _ | refine blk_drew ?_ | refine blk_alloc ?_ _)); exact BK283.out)) : gb292 ≠ gb283))
    clear HO287
    clear BK282
    clear BK283
    clear HB
    have HO287 := n0_
    have BK282 := n1_
    have BK283 := n2_
    have HB := n3_
    have BK292 := n4_
    have GW292 := n5_
    have GE292 := n6_
    have NB282_292 := n7_
    have NB292_282 := n8_
    have NB283_292 := n9_
    have NB292_283 := n10_
    clear n0_ n1_ n2_ n3_ n4_ n5_ n6_ n7_ n8_ n9_ n10_
    clear hb hbox hg
    refine hK.out _ _ ⟨(blk_cell BK282.out 0).trans rfl, (blk_cell BK282.out 1).trans rfl, (blk_cell BK282.out 2).trans rfl, (blk_cell BK282.out 3).trans rfl, (blk_cell BK282.out 4).trans rfl, (blk_cell BK282.out 5).trans rfl, (blk_cell BK282.out 6).trans rfl, (blk_cell BK282.out 7).trans rfl⟩ (fun hHeld => ?_)
    clear hK K
    refine norm_ (a' := ?_) ?_ ?_
    rotate_left
    ·show Act.put _ (some 3) _ = _
     simp only [Act.put, s0_, s1_, s2_, i64_w, i32_w]
     rfl
    refine one_ (i := 11) (N := some 16) #[Y, Y, Y, Y, Y, Y, Y, Y, Y, Y, Y, Y, Z, Y, Z] rfl rfl (one_of HT_.out (by kernel_rfl)) (by decide) (fun K hK => ?_)
    refine goes_ Try.func21 (by kernel_rfl) rfl #[.slice A0_6 l0_6.length c0_6] (by rfl) rfl rfl (by (try simp only [List.map_toArray, List.map_cons, List.map_nil]); first | done | rfl | (simp only [List.length_drop, List.length_take]; rfl)) ?_
    with_reducible refine (erratumlaw00_Strings.calls _ _ l0_6 t289 _ ?side1 ?side2 A3.out).mono ?_
    (case side1 => repeat (first | exact (Kd.C_below HR0_6.out HB.out) | (with_reducible refine Kd.C_alloc ?_ _) | (with_reducible refine Kd.C_drewN ?_ _) | (with_reducible refine Kd.C_drew ?_)))
    (case side2 => exact HC0_6.out)
    rintro e w9 ⟨v290, rfl, ho0, hb⟩
    refine ⟨_, rfl, ?_⟩
    have n0_ := Aside0.mk (Kd.R_below (by (with_reducible repeat (first | apply Kd.R_alloc | apply Kd.R_drewN | apply Kd.R_drew)); exact HO287.out) hb)
    have n1_ := Aside0.mk (Kd.R_lower ho0 (below_size (by repeat (first | (with_reducible first | exact HB.out | apply below_alloc | apply pw_below_drewN | apply below_drew1 | refine below_set ?_ GE282.out | refine below_set ?_ GE283.out | refine below_set ?_ GE292.out) | exact HB.out))))
    have n2_ := Aside0.mk (blk_below (g := gb282) (o := .cells #[.int .i64 a0_0, .bool a0_1, .bool a0_2, .slice A0_3 l0_3.length c0_3, .int .i64 a0_4, .string a0_5, .slice A0_6 l0_6.length c0_6, .slice A0_7 l0_7.length c0_7] 50 (0, 0)) (by (with_reducible repeat (first | refine blk_drewN ?_ _ | refine blk_drew ?_ | refine blk_alloc ?_ _)); exact BK282.out) hb)
    have n3_ := Aside0.mk (blk_below (g := gb283) (o := .cells #[.int .i64 0, .bool false, .bool false, .slice none 0 0, .int .i64 0, .string (⟨#[]⟩ : ByteArray), .slice none 0 0, .slice none 0 0] 50 (0, 0)) (by (with_reducible repeat (first | refine blk_drewN ?_ _ | refine blk_drew ?_ | refine blk_alloc ?_ _)); exact BK283.out) hb)
    have n4_ := Aside0.mk (blk_below (g := gb292) (o := .cells #[.int .i64 0, .bool false, .bool false, .slice none 0 0, .int .i64 0, .string (⟨#[]⟩ : ByteArray), .slice none 0 0, .slice none 0 0] 50 (0, 0)) (by (with_reducible repeat (first | refine blk_drewN ?_ _ | refine blk_drew ?_ | refine blk_alloc ?_ _)); exact BK292.out) hb)
    have n5_ := Aside0.mk (below_step (by repeat (first | (with_reducible first | exact HB.out | apply below_alloc | apply pw_below_drewN | apply below_drew1 | refine below_set ?_ GE282.out | refine below_set ?_ GE283.out | refine below_set ?_ GE292.out) | exact HB.out)) hb)
    clear HO287
    clear BK282
    clear BK283
    clear BK292
    clear HB
    have HO287 := n0_
    have HO291 := n1_
    have BK282 := n2_
    have BK283 := n3_
    have BK292 := n4_
    have HB := n5_
    clear n0_ n1_ n2_ n3_ n4_ n5_
    (try clear hb)
    (try clear hb2)
    (try clear hk)
    (try clear hi)
    (try clear ho0)
    obtain ⟨Ao10, co10, eo10⟩ := Kd.R_slice HO291.out
    (first | subst eo10 | (injection eo10 with f1_ f2_ f3_; have f4_ := f1_.symm; have f5_ := f3_.symm; clear f1_ f2_ f3_; subst f4_; subst f5_))
    obtain ⟨Ao11, co11, eo11⟩ := Kd.R_slice HO287.out
    (first | subst eo11 | (injection eo11 with f1_ f2_ f3_; have f4_ := f1_.symm; have f5_ := f3_.symm; clear f1_ f2_ f3_; subst f4_; subst f5_))
    refine hK.out _ _ ⟨(blk_cell BK282.out 0).trans rfl, (blk_cell BK282.out 1).trans rfl, (blk_cell BK282.out 2).trans rfl, (blk_cell BK282.out 3).trans rfl, (blk_cell BK282.out 4).trans rfl, (blk_cell BK282.out 5).trans rfl, (blk_cell BK282.out 6).trans rfl, (blk_cell BK282.out 7).trans rfl⟩ (fun hHeld => ?_)
    clear hK K
    refine norm_ (a' := ?_) ?_ ?_
    rotate_left
    ·show Act.put _ (some 16) _ = _
     simp only [Act.put, s0_, s1_, s2_, i64_w, i32_w]
     rfl
    refine pure_ (i := 12) (N := some 17) (v := ?_) (a' := ?_) #[Y, Y, Y, Y, Y, Y, Y, Y, Y, Y, Y, Y, Y, Y, Z] rfl rfl (any_of HT_.out (by kernel_rfl)) (fun _ _ _ h => h) (Or.inl ⟨by rfl, ?_⟩) ?_ ?_
    rotate_left
    ·intro w'
     go_simp
     with_reducible rfl
    rotate_left
    ·simp only [Act.put, s0_, s1_, s2_, i64_w, i32_w]
     rfl
    exact norm_ (by simp only [putAll, Act.put, s0_, s1_, s2_]) (hCont (.slice Ao11 t285.length co11, .slice Ao10 t289.length co10, gb292) _ ⟨hHeld, (by (with_reducible repeat (first | apply Kd.R_alloc | apply Kd.R_drewN | apply Kd.R_drew)); exact HO287.out), (by (with_reducible repeat (first | apply Kd.R_alloc | apply Kd.R_drewN | apply Kd.R_drew)); exact HO291.out), (by (with_reducible repeat (first | refine blk_drewN ?_ _ | refine blk_drew ?_ | refine blk_alloc ?_ _)); exact BK282.out), (by (with_reducible repeat (first | refine blk_drewN ?_ _ | refine blk_drew ?_ | refine blk_alloc ?_ _)); exact BK283.out), (by (with_reducible repeat (first | refine blk_drewN ?_ _ | refine blk_drew ?_ | refine blk_alloc ?_ _)); exact BK292.out), GW292.out, GE292.out, NB282_292.out, NB292_282.out, NB283_292.out, NB292_283.out, (by repeat (first | (with_reducible first | exact HB.out | apply below_alloc | apply pw_below_drewN | apply below_drew1 | refine below_set ?_ GE282.out | refine below_set ?_ GE283.out | refine below_set ?_ GE292.out) | exact HB.out))⟩)
  ·skip
   refine box_step ?hg (N := 3) ?hd (cs := #[.int .i64 0, .bool false, .bool false, .slice none 0 0, .int .i64 0, .string (⟨#[]⟩ : ByteArray), .slice none 0 0, .slice none 0 0]) (t := 50) ?hr ?_; (case hd => rfl); (case hg => rfl); (case hr => first | (go_simp; done) | (go_simp; rfl))
   intro gb292 hg w7 hbox hb
   have n0_ := Aside0.mk (blk_below (g := gb282) (o := .cells #[.int .i64 a0_0, .bool a0_1, .bool a0_2, .slice A0_3 l0_3.length c0_3, .int .i64 a0_4, .string a0_5, .slice A0_6 l0_6.length c0_6, .slice A0_7 l0_7.length c0_7] 50 (0, 0)) (by (with_reducible repeat (first | refine blk_drewN ?_ _ | refine blk_drew ?_ | refine blk_alloc ?_ _)); exact BK282.out) hb)
   have n1_ := Aside0.mk (blk_below (g := gb283) (o := .cells #[.int .i64 0, .bool false, .bool false, .slice none 0 0, .int .i64 0, .string (⟨#[]⟩ : ByteArray), .slice none 0 0, .slice none 0 0] 50 (0, 0)) (by (with_reducible repeat (first | refine blk_drewN ?_ _ | refine blk_drew ?_ | refine blk_alloc ?_ _)); exact BK283.out) hb)
   have n2_ := Aside0.mk (below_step (by repeat (first | (with_reducible first | exact HB.out | apply below_alloc | apply pw_below_drewN | apply below_drew1 | refine below_set ?_ GE282.out | refine below_set ?_ GE283.out) | exact HB.out)) hb)
   have n3_ := Aside0.mk (hbox)
   have n4_ := Aside0.mk ((by rw [hg]; exact (below_size (by repeat (first | (with_reducible first | exact HB.out | apply below_alloc | apply pw_below_drewN | apply below_drew1 | refine below_set ?_ GE282.out | refine below_set ?_ GE283.out) | exact HB.out))) : w.heap.size ≤ gb292))
   have n5_ := Aside0.mk ((by rw [hg]; exact (below_size (by repeat (first | (with_reducible first | exact HB.out | apply below_alloc | apply pw_below_drewN | apply below_drew1 | refine below_set ?_ GE282.out | refine below_set ?_ GE283.out) | exact HB.out))) : w.heap.size ≤ gb292))
   have n6_ := Aside0.mk ((by rw [hg]; exact Nat.ne_of_lt (blk_lt (g := gb282) (o := .cells #[.int .i64 a0_0, .bool a0_1, .bool a0_2, .slice A0_3 l0_3.length c0_3, .int .i64 a0_4, .string a0_5, .slice A0_6 l0_6.length c0_6, .slice A0_7 l0_7.length c0_7] 50 (0, 0)) (by (with_reducible repeat (first | refine blk_drewN ?_ _ | refine blk_drew ?_ | refine blk_alloc ?_ _)); exact BK282.out)) : gb282 ≠ gb292))
   have n7_ := Aside0.mk ((by rw [hg]; exact Nat.ne_of_gt (blk_lt (g := gb282) (o := .cells #[.int .i64 a0_0, .bool a0_1, .bool a0_2, .slice A0_3 l0_3.length c0_3, .int .i64 a0_4, .string a0_5, .slice A0_6 l0_6.length c0_6, .slice A0_7 l0_7.length c0_7] 50 (0, 0)) (by (with_reducible repeat (first | refine blk_drewN ?_ _ | refine blk_drew ?_ | refine blk_alloc ?_ _)); exact BK282.out)) : gb292 ≠ gb282))
   have n8_ := Aside0.mk ((by rw [hg]; exact Nat.ne_of_lt (blk_lt (g := gb283) (o := .cells #[.int .i64 0, .bool false, .bool false, .slice none 0 0, .int .i64 0, .string (⟨#[]⟩ : ByteArray), .slice none 0 0, .slice none 0 0] 50 (0, 0)) (by (with_reducible repeat (first | refine blk_drewN ?_ _ | refine blk_drew ?_ | refine blk_alloc ?_ _)); exact BK283.out)) : gb283 ≠ gb292))
   have n9_ := Aside0.mk ((by rw [hg]; exact Nat.ne_of_gt (blk_lt (g := gb283) (o := .cells #[.int .i64 0, .bool false, .bool false, .slice none 0 0, .int .i64 0, .string (⟨#[]⟩ : ByteArray), .slice none 0 0, .slice none 0 0] 50 (0, 0)) (by (with_reducible repeat (first | refine blk_drewN ?_ _ | refine blk_drew ?_ | refine blk_alloc ?_ _)); exact BK283.out)) : gb292 ≠ gb283))
   clear BK282
   clear BK283
   clear HB
   have BK282 := n0_
   have BK283 := n1_
   have HB := n2_
   have BK292 := n3_
   have GW292 := n4_
   have GE292 := n5_
   have NB282_292 := n6_
   have NB292_282 := n7_
   have NB283_292 := n8_
   have NB292_283 := n9_
   clear n0_ n1_ n2_ n3_ n4_ n5_ n6_ n7_ n8_ n9_
   clear hb hbox hg
   refine hK.out _ _ ⟨(blk_cell BK282.out 0).trans rfl, (blk_cell BK282.out 1).trans rfl, (blk_cell BK282.out 2).trans rfl, (blk_cell BK282.out 3).trans rfl, (blk_cell BK282.out 4).trans rfl, (blk_cell BK282.out 5).trans rfl, (blk_cell BK282.out 6).trans rfl, (blk_cell BK282.out 7).trans rfl⟩ (fun hHeld => ?_)
   clear hK K
   refine norm_ (a' := ?_) ?_ ?_
   rotate_left
   ·show Act.put _ (some 3) _ = _
    simp only [Act.put, s0_, s1_, s2_, i64_w, i32_w]
    rfl
   refine one_ (i := 6) (N := some 11) #[Y, Y, Y, Y, Y, Y, Y, Y, Y, Y, Y, Z, Z, Y, Z] rfl rfl (one_of HT_.out (by kernel_rfl)) (by decide) (fun K hK => ?_)
   refine goes_ Try.func51 (by kernel_rfl) rfl #[.agg #[.bool a0_2, .slice A0_3 l0_3.length c0_3, .int .i64 a0_4]] (by rfl) rfl rfl (by (try simp only [List.map_toArray, List.map_cons, List.map_nil]); first | done | rfl | (simp only [List.length_drop, List.length_take]; rfl)) ?_
   with_reducible refine (erratumlaw00_Num.calls a0_2 _ _ l0_3 a0_4 t284 t285 t288 _ ?side1 ?side2 A2.out).mono ?_
   (case side1 => repeat (first | exact (Kd.C_below HR0_3.out HB.out) | (with_reducible refine Kd.C_alloc ?_ _) | (with_reducible refine Kd.C_drewN ?_ _) | (with_reducible refine Kd.C_drew ?_)))
   (case side2 => exact HC0_3.out)
   rintro e w8 ⟨v286, rfl, ho0, hb⟩
   refine ⟨_, rfl, ?_⟩
   have n0_ := Aside0.mk (Kd.R_lower ho0 (below_size (by repeat (first | (with_reducible first | exact HB.out | apply below_alloc | apply pw_below_drewN | apply below_drew1 | refine below_set ?_ GE282.out | refine below_set ?_ GE283.out | refine below_set ?_ GE292.out) | exact HB.out))))
   have n1_ := Aside0.mk (blk_below (g := gb282) (o := .cells #[.int .i64 a0_0, .bool a0_1, .bool a0_2, .slice A0_3 l0_3.length c0_3, .int .i64 a0_4, .string a0_5, .slice A0_6 l0_6.length c0_6, .slice A0_7 l0_7.length c0_7] 50 (0, 0)) (by (with_reducible repeat (first | refine blk_drewN ?_ _ | refine blk_drew ?_ | refine blk_alloc ?_ _)); exact BK282.out) hb)
   have n2_ := Aside0.mk (blk_below (g := gb283) (o := .cells #[.int .i64 0, .bool false, .bool false, .slice none 0 0, .int .i64 0, .string (⟨#[]⟩ : ByteArray), .slice none 0 0, .slice none 0 0] 50 (0, 0)) (by (with_reducible repeat (first | refine blk_drewN ?_ _ | refine blk_drew ?_ | refine blk_alloc ?_ _)); exact BK283.out) hb)
   have n3_ := Aside0.mk (blk_below (g := gb292) (o := .cells #[.int .i64 0, .bool false, .bool false, .slice none 0 0, .int .i64 0, .string (⟨#[]⟩ : ByteArray), .slice none 0 0, .slice none 0 0] 50 (0, 0)) (by (with_reducible repeat (first | refine blk_drewN ?_ _ | refine blk_drew ?_ | refine blk_alloc ?_ _)); exact BK292.out) hb)
   have n4_ := Aside0.mk (below_step (by repeat (first | (with_reducible first | exact HB.out | apply below_alloc | apply pw_below_drewN | apply below_drew1 | refine below_set ?_ GE282.out | refine below_set ?_ GE283.out | refine below_set ?_ GE292.out) | exact HB.out)) hb)
   clear BK282
   clear BK283
   clear BK292
   clear HB
   have HO287 := n0_
   have BK282 := n1_
   have BK283 := n2_
   have BK292 := n3_
   have HB := n4_
   clear n0_ n1_ n2_ n3_ n4_
   (try clear hb)
   (try clear hb2)
   (try clear hk)
   (try clear hi)
   (try clear ho0)
   refine hK.out _ _ ⟨(blk_cell BK282.out 0).trans rfl, (blk_cell BK282.out 1).trans rfl, (blk_cell BK282.out 2).trans rfl, (blk_cell BK282.out 3).trans rfl, (blk_cell BK282.out 4).trans rfl, (blk_cell BK282.out 5).trans rfl, (blk_cell BK282.out 6).trans rfl, (blk_cell BK282.out 7).trans rfl⟩ (fun hHeld => ?_)
   clear hK K
   refine norm_ (a' := ?_) ?_ ?_
   rotate_left
   ·show Act.put _ (some 11) _ = _
    simp only [Act.put, s0_, s1_, s2_, i64_w, i32_w]
    rfl
   refine one_ (i := 11) (N := some 16) #[Y, Y, Y, Y, Y, Y, Y, Y, Y, Y, Y, Y, Z, Y, Z] rfl rfl (one_of HT_.out (by kernel_rfl)) (by decide) (fun K hK => ?_)
   refine goes_ Try.func21 (by kernel_rfl) rfl #[.slice A0_6 l0_6.length c0_6] (by rfl) rfl rfl (by (try simp only [List.map_toArray, List.map_cons, List.map_nil]); first | done | rfl | (simp only [List.length_drop, List.length_take]; rfl)) ?_
   with_reducible refine (erratumlaw00_Strings.calls _ _ l0_6 t289 _ ?side1 ?side2 A3.out).mono ?_
   (case side1 => repeat (first | exact (Kd.C_below HR0_6.out HB.out) | (with_reducible refine Kd.C_alloc ?_ _) | (with_reducible refine Kd.C_drewN ?_ _) | (with_reducible refine Kd.C_drew ?_)))
   (case side2 => exact HC0_6.out)
   rintro e w9 ⟨v290, rfl, ho0, hb⟩
   refine ⟨_, rfl, ?_⟩
   have n0_ := Aside0.mk (Kd.R_below (by (with_reducible repeat (first | apply Kd.R_alloc | apply Kd.R_drewN | apply Kd.R_drew)); exact HO287.out) hb)
   have n1_ := Aside0.mk (Kd.R_lower ho0 (below_size (by repeat (first | (with_reducible first | exact HB.out | apply below_alloc | apply pw_below_drewN | apply below_drew1 | refine below_set ?_ GE282.out | refine below_set ?_ GE283.out | refine below_set ?_ GE292.out) | exact HB.out))))
   have n2_ := Aside0.mk (blk_below (g := gb282) (o := .cells #[.int .i64 a0_0, .bool a0_1, .bool a0_2, .slice A0_3 l0_3.length c0_3, .int .i64 a0_4, .string a0_5, .slice A0_6 l0_6.length c0_6, .slice A0_7 l0_7.length c0_7] 50 (0, 0)) (by (with_reducible repeat (first | refine blk_drewN ?_ _ | refine blk_drew ?_ | refine blk_alloc ?_ _)); exact BK282.out) hb)
   have n3_ := Aside0.mk (blk_below (g := gb283) (o := .cells #[.int .i64 0, .bool false, .bool false, .slice none 0 0, .int .i64 0, .string (⟨#[]⟩ : ByteArray), .slice none 0 0, .slice none 0 0] 50 (0, 0)) (by (with_reducible repeat (first | refine blk_drewN ?_ _ | refine blk_drew ?_ | refine blk_alloc ?_ _)); exact BK283.out) hb)
   have n4_ := Aside0.mk (blk_below (g := gb292) (o := .cells #[.int .i64 0, .bool false, .bool false, .slice none 0 0, .int .i64 0, .string (⟨#[]⟩ : ByteArray), .slice none 0 0, .slice none 0 0] 50 (0, 0)) (by (with_reducible repeat (first | refine blk_drewN ?_ _ | refine blk_drew ?_ | refine blk_alloc ?_ _)); exact BK292.out) hb)
   have n5_ := Aside0.mk (below_step (by repeat (first | (with_reducible first | exact HB.out | apply below_alloc | apply pw_below_drewN | apply below_drew1 | refine below_set ?_ GE282.out | refine below_set ?_ GE283.out | refine below_set ?_ GE292.out) | exact HB.out)) hb)
   clear HO287
   clear BK282
   clear BK283
   clear BK292
   clear HB
   have HO287 := n0_
   have HO291 := n1_
   have BK282 := n2_
   have BK283 := n3_
   have BK292 := n4_
   have HB := n5_
   clear n0_ n1_ n2_ n3_ n4_ n5_
   (try clear hb)
   (try clear hb2)
   (try clear hk)
   (try clear hi)
   (try clear ho0)
   obtain ⟨Ao10, co10, eo10⟩ := Kd.R_slice HO291.out
   (first | subst eo10 | (injection eo10 with f1_ f2_ f3_; have f4_ := f1_.symm; have f5_ := f3_.symm; clear f1_ f2_ f3_; subst f4_; subst f5_))
   obtain ⟨Ao11, co11, eo11⟩ := Kd.R_slice HO287.out
   (first | subst eo11 | (injection eo11 with f1_ f2_ f3_; have f4_ := f1_.symm; have f5_ := f3_.symm; clear f1_ f2_ f3_; subst f4_; subst f5_))
   refine hK.out _ _ ⟨(blk_cell BK282.out 0).trans rfl, (blk_cell BK282.out 1).trans rfl, (blk_cell BK282.out 2).trans rfl, (blk_cell BK282.out 3).trans rfl, (blk_cell BK282.out 4).trans rfl, (blk_cell BK282.out 5).trans rfl, (blk_cell BK282.out 6).trans rfl, (blk_cell BK282.out 7).trans rfl⟩ (fun hHeld => ?_)
   clear hK K
   refine norm_ (a' := ?_) ?_ ?_
   rotate_left
   ·show Act.put _ (some 16) _ = _
    simp only [Act.put, s0_, s1_, s2_, i64_w, i32_w]
    rfl
   refine pure_ (i := 12) (N := some 17) (v := ?_) (a' := ?_) #[Y, Y, Y, Y, Y, Y, Y, Y, Y, Y, Y, Y, Y, Y, Z] rfl rfl (any_of HT_.out (by kernel_rfl)) (fun _ _ _ h => h) (Or.inl ⟨by rfl, ?_⟩) ?_ ?_
   rotate_left
   ·intro w'
    go_simp
    with_reducible rfl
   rotate_left
   ·simp only [Act.put, s0_, s1_, s2_, i64_w, i32_w]
    rfl
   exact norm_ (by simp only [putAll, Act.put, s0_, s1_, s2_]) (hCont (.slice Ao11 t285.length co11, .slice Ao10 t289.length co10, gb292) _ ⟨hHeld, (by (with_reducible repeat (first | apply Kd.R_alloc | apply Kd.R_drewN | apply Kd.R_drew)); exact HO287.out), (by (with_reducible repeat (first | apply Kd.R_alloc | apply Kd.R_drewN | apply Kd.R_drew)); exact HO291.out), (by (with_reducible repeat (first | refine blk_drewN ?_ _ | refine blk_drew ?_ | refine blk_alloc ?_ _)); exact BK282.out), (by (with_reducible repeat (first | refine blk_drewN ?_ _ | refine blk_drew ?_ | refine blk_alloc ?_ _)); exact BK283.out), (by (with_reducible repeat (first | refine blk_drewN ?_ _ | refine blk_drew ?_ | refine blk_alloc ?_ _)); exact BK292.out), GW292.out, GE292.out, NB282_292.out, NB292_282.out, NB283_292.out, NB292_283.out, (by repeat (first | (with_reducible first | exact HB.out | apply below_alloc | apply pw_below_drewN | apply below_drew1 | refine below_set ?_ GE282.out | refine below_set ?_ GE283.out | refine below_set ?_ GE292.out) | exact HB.out))⟩)
 rintro ⟨v286, v290, gb292⟩ w12 ⟨hS_, h0_, h1_, h2_, h3_, h4_, h5_, h6_, h7_, h8_, h9_, h10_, h11_⟩
 have n0_ : Aside0 (Kd.R (Kd.int .u32) 78 w12 w.heap.size (fun _ => True) v286 t285) := ⟨h0_⟩
 have n1_ : Aside0 (Kd.R Kd.string 9 w12 w.heap.size (fun _ => True) v290 t289) := ⟨h1_⟩
 have n2_ : Aside0 (w12.heap[gb282]? = some (.cells #[.int .i64 a0_0, .bool a0_1, .bool a0_2, .slice A0_3 l0_3.length c0_3, .int .i64 a0_4, .string a0_5, .slice A0_6 l0_6.length c0_6, .slice A0_7 l0_7.length c0_7] 50 (0, 0))) := ⟨h2_⟩
 have n3_ : Aside0 (w12.heap[gb283]? = some (.cells #[.int .i64 0, .bool false, .bool false, .slice none 0 0, .int .i64 0, .string (⟨#[]⟩ : ByteArray), .slice none 0 0, .slice none 0 0] 50 (0, 0))) := ⟨h3_⟩
 have n4_ : Aside0 (w12.heap[gb292]? = some (.cells #[.int .i64 0, .bool false, .bool false, .slice none 0 0, .int .i64 0, .string (⟨#[]⟩ : ByteArray), .slice none 0 0, .slice none 0 0] 50 (0, 0))) := ⟨h4_⟩
 have n5_ : Aside0 (w.heap.size ≤ gb292) := ⟨h5_⟩
 have n6_ : Aside0 (w.heap.size ≤ gb292) := ⟨h6_⟩
 have n7_ : Aside0 (gb282 ≠ gb292) := ⟨h7_⟩
 have n8_ : Aside0 (gb292 ≠ gb282) := ⟨h8_⟩
 have n9_ : Aside0 (gb283 ≠ gb292) := ⟨h9_⟩
 have n10_ : Aside0 (gb292 ≠ gb283) := ⟨h10_⟩
 have n11_ : Aside0 (Below w.heap.size w w12) := ⟨h11_⟩
 clear BK282
 clear BK283
 clear HB
 clear h0_ h1_ h2_ h3_ h4_ h5_ h6_ h7_ h8_ h9_ h10_ h11_
 have HO287 := n0_
 have HO291 := n1_
 have BK282 := n2_
 have BK283 := n3_
 have BK292 := n4_
 have GW292 := n5_
 have GE292 := n6_
 have NB282_292 := n7_
 have NB292_282 := n8_
 have NB283_292 := n9_
 have NB292_283 := n10_
 have HB := n11_
 clear n0_ n1_ n2_ n3_ n4_ n5_ n6_ n7_ n8_ n9_ n10_ n11_
 have hHeld : w12.cell? ⟨gb282, 0, none⟩ = some (.int .i64 a0_0) ∧ w12.cell? ⟨gb282, 1, none⟩ = some (.bool a0_1) ∧ w12.cell? ⟨gb282, 2, none⟩ = some (.bool a0_2) ∧ w12.cell? ⟨gb282, 3, none⟩ = some (.slice A0_3 l0_3.length c0_3) ∧ w12.cell? ⟨gb282, 4, none⟩ = some (.int .i64 a0_4) ∧ w12.cell? ⟨gb282, 5, none⟩ = some (.string a0_5) ∧ w12.cell? ⟨gb282, 6, none⟩ = some (.slice A0_6 l0_6.length c0_6) ∧ w12.cell? ⟨gb282, 7, none⟩ = some (.slice A0_7 l0_7.length c0_7) := hS_
 obtain ⟨Ao13, co13, eo13⟩ := Kd.R_slice HO291.out
 (first | subst eo13 | (injection eo13 with f1_ f2_ f3_; have f4_ := f1_.symm; have f5_ := f3_.symm; clear f1_ f2_ f3_; subst f4_; subst f5_))
 obtain ⟨Ao14, co14, eo14⟩ := Kd.R_slice HO287.out
 (first | subst eo14 | (injection eo14 with f1_ f2_ f3_; have f4_ := f1_.symm; have f5_ := f3_.symm; clear f1_ f2_ f3_; subst f4_; subst f5_))
 refine norm_ (a' := ?_) ?_ ?_
 rotate_left
 ·simp only [putAll, Act.put, s0_, s1_, s2_]
  rfl
 refine one_ (i := 14) (N := none) #[Y, Y, Y, Y, Y, Y, Y, Y, Y, Y, Y, Y, Y, Y, Y] rfl rfl (one_of HT_.out (by kernel_rfl)) (by decide) (fun K hK => ?_)
 have hs15 : w12.cell? ⟨gb292, 0, none⟩ = some (.int .i64 0) := (blk_cell BK292.out 0).trans rfl
 have hfs15 := blk_frozen BK292.out 0
 have hns15_0 := NB282_292.out
 have hns15_1 := NB283_292.out
 have hms15_0 := NB292_282.out
 have hms15_1 := NB292_283.out
 have hs16 : w12.cell? ⟨gb292, 1, none⟩ = some (.bool false) := (blk_cell BK292.out 1).trans rfl
 have hfs16 := blk_frozen BK292.out 1
 have hns16_0 := NB282_292.out
 have hns16_1 := NB283_292.out
 have hms16_0 := NB292_282.out
 have hms16_1 := NB292_283.out
 have hs17 : w12.cell? ⟨gb292, 2, none⟩ = some (.bool false) := (blk_cell BK292.out 2).trans rfl
 have hfs17 := blk_frozen BK292.out 2
 have hns17_0 := NB282_292.out
 have hns17_1 := NB283_292.out
 have hms17_0 := NB292_282.out
 have hms17_1 := NB292_283.out
 have hs18 : w12.cell? ⟨gb292, 3, none⟩ = some (.slice none 0 0) := (blk_cell BK292.out 3).trans rfl
 have hfs18 := blk_frozen BK292.out 3
 have hns18_0 := NB282_292.out
 have hns18_1 := NB283_292.out
 have hms18_0 := NB292_282.out
 have hms18_1 := NB292_283.out
 have hs19 : w12.cell? ⟨gb292, 4, none⟩ = some (.int .i64 0) := (blk_cell BK292.out 4).trans rfl
 have hfs19 := blk_frozen BK292.out 4
 have hns19_0 := NB282_292.out
 have hns19_1 := NB283_292.out
 have hms19_0 := NB292_282.out
 have hms19_1 := NB292_283.out
 have hs20 : w12.cell? ⟨gb292, 5, none⟩ = some (.string (⟨#[]⟩ : ByteArray)) := (blk_cell BK292.out 5).trans rfl
 have hfs20 := blk_frozen BK292.out 5
 have hns20_0 := NB282_292.out
 have hns20_1 := NB283_292.out
 have hms20_0 := NB292_282.out
 have hms20_1 := NB292_283.out
 have hs21 : w12.cell? ⟨gb292, 6, none⟩ = some (.slice none 0 0) := (blk_cell BK292.out 6).trans rfl
 have hfs21 := blk_frozen BK292.out 6
 have hns21_0 := NB282_292.out
 have hns21_1 := NB283_292.out
 have hms21_0 := NB292_282.out
 have hms21_1 := NB292_283.out
 have hs22 : w12.cell? ⟨gb292, 7, none⟩ = some (.slice none 0 0) := (blk_cell BK292.out 7).trans rfl
 have hfs22 := blk_frozen BK292.out 7
 have hns22_0 := NB282_292.out
 have hns22_1 := NB283_292.out
 have hms22_0 := NB292_282.out
 have hms22_1 := NB292_283.out
 refine skip_ (w1 := ?_) (by rfl) rfl ?_ ?_
 rotate_left
 ·go_simp
  rfl
 refine hK.out _ _ ⟨((cell_far (p := ⟨gb292, _, none⟩) NB282_292.out _).trans (((cell_far (p := ⟨gb292, _, none⟩) NB282_292.out _).trans (((cell_far (p := ⟨gb292, _, none⟩) NB282_292.out _).trans (((cell_far (p := ⟨gb292, _, none⟩) NB282_292.out _).trans (((cell_far (p := ⟨gb292, _, none⟩) NB282_292.out _).trans (((cell_far (p := ⟨gb292, _, none⟩) NB282_292.out _).trans (((cell_far (p := ⟨gb292, _, none⟩) NB282_292.out _).trans (((cell_far (p := ⟨gb292, _, none⟩) NB282_292.out _).trans (hHeld.1)))))))))))))))), ((cell_far (p := ⟨gb292, _, none⟩) NB282_292.out _).trans (((cell_far (p := ⟨gb292, _, none⟩) NB282_292.out _).trans (((cell_far (p := ⟨gb292, _, none⟩) NB282_292.out _).trans (((cell_far (p := ⟨gb292, _, none⟩) NB282_292.out _).trans (((cell_far (p := ⟨gb292, _, none⟩) NB282_292.out _).trans (((cell_far (p := ⟨gb292, _, none⟩) NB282_292.out _).trans (((cell_far (p := ⟨gb292, _, none⟩) NB282_292.out _).trans (((cell_far (p := ⟨gb292, _, none⟩) NB282_292.out _).trans (hHeld.2.1)))))))))))))))), ((cell_far (p := ⟨gb292, _, none⟩) NB282_292.out _).trans (((cell_far (p := ⟨gb292, _, none⟩) NB282_292.out _).trans (((cell_far (p := ⟨gb292, _, none⟩) NB282_292.out _).trans (((cell_far (p := ⟨gb292, _, none⟩) NB282_292.out _).trans (((cell_far (p := ⟨gb292, _, none⟩) NB282_292.out _).trans (((cell_far (p := ⟨gb292, _, none⟩) NB282_292.out _).trans (((cell_far (p := ⟨gb292, _, none⟩) NB282_292.out _).trans (((cell_far (p := ⟨gb292, _, none⟩) NB282_292.out _).trans (hHeld.2.2.1)))))))))))))))), ((cell_far (p := ⟨gb292, _, none⟩) NB282_292.out _).trans (((cell_far (p := ⟨gb292, _, none⟩) NB282_292.out _).trans (((cell_far (p := ⟨gb292, _, none⟩) NB282_292.out _).trans (((cell_far (p := ⟨gb292, _, none⟩) NB282_292.out _).trans (((cell_far (p := ⟨gb292, _, none⟩) NB282_292.out _).trans (((cell_far (p := ⟨gb292, _, none⟩) NB282_292.out _).trans (((cell_far (p := ⟨gb292, _, none⟩) NB282_292.out _).trans (((cell_far (p := ⟨gb292, _, none⟩) NB282_292.out _).trans (hHeld.2.2.2.1)))))))))))))))), ((cell_far (p := ⟨gb292, _, none⟩) NB282_292.out _).trans (((cell_far (p := ⟨gb292, _, none⟩) NB282_292.out _).trans (((cell_far (p := ⟨gb292, _, none⟩) NB282_292.out _).trans (((cell_far (p := ⟨gb292, _, none⟩) NB282_292.out _).trans (((cell_far (p := ⟨gb292, _, none⟩) NB282_292.out _).trans (((cell_far (p := ⟨gb292, _, none⟩) NB282_292.out _).trans (((cell_far (p := ⟨gb292, _, none⟩) NB282_292.out _).trans (((cell_far (p := ⟨gb292, _, none⟩) NB282_292.out _).trans (hHeld.2.2.2.2.1)))))))))))))))), ((cell_far (p := ⟨gb292, _, none⟩) NB282_292.out _).trans (((cell_far (p := ⟨gb292, _, none⟩) NB282_292.out _).trans (((cell_far (p := ⟨gb292, _, none⟩) NB282_292.out _).trans (((cell_far (p := ⟨gb292, _, none⟩) NB282_292.out _).trans (((cell_far (p := ⟨gb292, _, none⟩) NB282_292.out _).trans (((cell_far (p := ⟨gb292, _, none⟩) NB282_292.out _).trans (((cell_far (p := ⟨gb292, _, none⟩) NB282_292.out _).trans (((cell_far (p := ⟨gb292, _, none⟩) NB282_292.out _).trans (hHeld.2.2.2.2.2.1)))))))))))))))), ((cell_far (p := ⟨gb292, _, none⟩) NB282_292.out _).trans (((cell_far (p := ⟨gb292, _, none⟩) NB282_292.out _).trans (((cell_far (p := ⟨gb292, _, none⟩) NB282_292.out _).trans (((cell_far (p := ⟨gb292, _, none⟩) NB282_292.out _).trans (((cell_far (p := ⟨gb292, _, none⟩) NB282_292.out _).trans (((cell_far (p := ⟨gb292, _, none⟩) NB282_292.out _).trans (((cell_far (p := ⟨gb292, _, none⟩) NB282_292.out _).trans (((cell_far (p := ⟨gb292, _, none⟩) NB282_292.out _).trans (hHeld.2.2.2.2.2.2.1)))))))))))))))), ((cell_far (p := ⟨gb292, _, none⟩) NB282_292.out _).trans (((cell_far (p := ⟨gb292, _, none⟩) NB282_292.out _).trans (((cell_far (p := ⟨gb292, _, none⟩) NB282_292.out _).trans (((cell_far (p := ⟨gb292, _, none⟩) NB282_292.out _).trans (((cell_far (p := ⟨gb292, _, none⟩) NB282_292.out _).trans (((cell_far (p := ⟨gb292, _, none⟩) NB282_292.out _).trans (((cell_far (p := ⟨gb292, _, none⟩) NB282_292.out _).trans (((cell_far (p := ⟨gb292, _, none⟩) NB282_292.out _).trans (hHeld.2.2.2.2.2.2.2))))))))))))))))⟩ (fun hHeld => ?_)
 clear hK K
 refine done_ (done_of HT_.out (by kernel_rfl)) ?_
 try go_wp2
 go_loopg [4] k (fun kq v4 w' => ∃ (x4_1 : Int) (x293007_1 : List (S50)) (u293007 : Value), v4 = .int .i64 x4_1 ∧ Aside0 (erratumlaw00_Tree.l0 kq x4_1 a0_0 a0_1 a0_2 l0_3 a0_4 a0_5 l0_6 l0_7 a0_0 a0_1 t284 t285 t288 a0_5 t289 x293007_1 = some (r1, r2, r3, r4, r5, r6, r7, r8)) ∧ Aside0 (kq ≤ k) ∧ Aside0 (Kd.R (Kd.int .u32) 78 w' w.heap.size (fun _ => True) (.slice Ao14 t285.length co14) t285) ∧ Aside0 (Kd.R Kd.string 9 w' w.heap.size (fun _ => True) (.slice Ao13 t289.length co13) t289) ∧ Aside0 (Kd.R k50 50 w' w.heap.size (fun k_ => some k_ ≠ ((.slice Ao14 t285.length co14) : Value).ownBlock ∧ some k_ ≠ ((.slice Ao13 t289.length co13) : Value).ownBlock ∧ k_ ≠ gb282 ∧ k_ ≠ gb283 ∧ k_ ≠ gb292) u293007 x293007_1) ∧ Aside0 (w'.heap[gb282]? = some (.cells #[.int .i64 a0_0, .bool a0_1, .bool a0_2, (.slice A0_3 l0_3.length c0_3), .int .i64 a0_4, .string a0_5, (.slice A0_6 l0_6.length c0_6), (.slice A0_7 l0_7.length c0_7)] 50 (0, 0))) ∧ Aside0 (w'.heap[gb283]? = some (.cells #[.int .i64 0, .bool false, .bool false, (.slice none 0 0), .int .i64 0, .string (⟨#[]⟩ : ByteArray), (.slice none 0 0), (.slice none 0 0)] 50 (0, 0))) ∧ Aside0 (w'.heap[gb292]? = some (.cells #[.int .i64 a0_0, .bool a0_1, .bool t284, (.slice Ao14 t285.length co14), .int .i64 t288, .string a0_5, (.slice Ao13 t289.length co13), u293007] 50 (0, 0))) ∧ Aside0 (Below w.heap.size w w'))
 case atStart => exact ⟨(0), (([] : List (S50))), (.slice none 0 0), (by first | rfl | (simp; done) | (simp [*]; done)), H', ⟨Nat.le_refl _⟩, ⟨by (with_reducible repeat (first | apply Kd.R_alloc | apply Kd.R_drewN | apply Kd.R_drew)); exact Kd.R_mono (Kd.R_far (p := ⟨gb292, 7, none⟩) (Kd.R_far (p := ⟨gb292, 6, none⟩) (Kd.R_far (p := ⟨gb292, 5, none⟩) (Kd.R_far (p := ⟨gb292, 4, none⟩) (Kd.R_far (p := ⟨gb292, 3, none⟩) (Kd.R_far (p := ⟨gb292, 2, none⟩) (Kd.R_far (p := ⟨gb292, 1, none⟩) (Kd.R_far (p := ⟨gb292, 0, none⟩) (Kd.R_types HO287.out BK292.out (by decide)) (fun _ hk => hk.2) (.int .i64 a0_0)) (fun _ hk => hk.2) (.bool a0_1)) (fun _ hk => hk.2) (.bool t284)) (fun _ hk => hk.2) (.slice Ao14 t285.length co14)) (fun _ hk => hk.2) (.int .i64 t288)) (fun _ hk => hk.2) (.string a0_5)) (fun _ hk => hk.2) (.slice Ao13 t289.length co13)) (fun _ hk => hk.2) (.slice none 0 0)) (fun _ hk => trivial)⟩, ⟨by (with_reducible repeat (first | apply Kd.R_alloc | apply Kd.R_drewN | apply Kd.R_drew)); exact Kd.R_mono (Kd.R_far (p := ⟨gb292, 7, none⟩) (Kd.R_far (p := ⟨gb292, 6, none⟩) (Kd.R_far (p := ⟨gb292, 5, none⟩) (Kd.R_far (p := ⟨gb292, 4, none⟩) (Kd.R_far (p := ⟨gb292, 3, none⟩) (Kd.R_far (p := ⟨gb292, 2, none⟩) (Kd.R_far (p := ⟨gb292, 1, none⟩) (Kd.R_far (p := ⟨gb292, 0, none⟩) (Kd.R_types HO291.out BK292.out (by decide)) (fun _ hk => hk.2) (.int .i64 a0_0)) (fun _ hk => hk.2) (.bool a0_1)) (fun _ hk => hk.2) (.bool t284)) (fun _ hk => hk.2) (.slice Ao14 t285.length co14)) (fun _ hk => hk.2) (.int .i64 t288)) (fun _ hk => hk.2) (.string a0_5)) (fun _ hk => hk.2) (.slice Ao13 t289.length co13)) (fun _ hk => hk.2) (.slice none 0 0)) (fun _ hk => trivial)⟩, ⟨by first | exact Kd.R_nil _ _ _ _ _ | exact Kd.N_nil _ _ _ _ _ | exact Kd.V_nil _ _ _ _ _ | exact Kd.Q_nil _ _ _ _ _ | exact Kd.S_nil _ _ _ _ _⟩, ⟨by (with_reducible repeat (first | refine blk_drewN ?_ _ | refine blk_drew ?_ | refine blk_alloc ?_ _)); refine blk_far ?_ NB282_292.out _; (with_reducible repeat (first | refine blk_drewN ?_ _ | refine blk_drew ?_ | refine blk_alloc ?_ _)); refine blk_far ?_ NB282_292.out _; (with_reducible repeat (first | refine blk_drewN ?_ _ | refine blk_drew ?_ | refine blk_alloc ?_ _)); refine blk_far ?_ NB282_292.out _; (with_reducible repeat (first | refine blk_drewN ?_ _ | refine blk_drew ?_ | refine blk_alloc ?_ _)); refine blk_far ?_ NB282_292.out _; (with_reducible repeat (first | refine blk_drewN ?_ _ | refine blk_drew ?_ | refine blk_alloc ?_ _)); refine blk_far ?_ NB282_292.out _; (with_reducible repeat (first | refine blk_drewN ?_ _ | refine blk_drew ?_ | refine blk_alloc ?_ _)); refine blk_far ?_ NB282_292.out _; (with_reducible repeat (first | refine blk_drewN ?_ _ | refine blk_drew ?_ | refine blk_alloc ?_ _)); refine blk_far ?_ NB282_292.out _; (with_reducible repeat (first | refine blk_drewN ?_ _ | refine blk_drew ?_ | refine blk_alloc ?_ _)); refine blk_far ?_ NB282_292.out _; (with_reducible repeat (first | refine blk_drewN ?_ _ | refine blk_drew ?_ | refine blk_alloc ?_ _)); exact BK282.out⟩, ⟨by (with_reducible repeat (first | refine blk_drewN ?_ _ | refine blk_drew ?_ | refine blk_alloc ?_ _)); refine blk_far ?_ NB283_292.out _; (with_reducible repeat (first | refine blk_drewN ?_ _ | refine blk_drew ?_ | refine blk_alloc ?_ _)); refine blk_far ?_ NB283_292.out _; (with_reducible repeat (first | refine blk_drewN ?_ _ | refine blk_drew ?_ | refine blk_alloc ?_ _)); refine blk_far ?_ NB283_292.out _; (with_reducible repeat (first | refine blk_drewN ?_ _ | refine blk_drew ?_ | refine blk_alloc ?_ _)); refine blk_far ?_ NB283_292.out _; (with_reducible repeat (first | refine blk_drewN ?_ _ | refine blk_drew ?_ | refine blk_alloc ?_ _)); refine blk_far ?_ NB283_292.out _; (with_reducible repeat (first | refine blk_drewN ?_ _ | refine blk_drew ?_ | refine blk_alloc ?_ _)); refine blk_far ?_ NB283_292.out _; (with_reducible repeat (first | refine blk_drewN ?_ _ | refine blk_drew ?_ | refine blk_alloc ?_ _)); refine blk_far ?_ NB283_292.out _; (with_reducible repeat (first | refine blk_drewN ?_ _ | refine blk_drew ?_ | refine blk_alloc ?_ _)); refine blk_far ?_ NB283_292.out _; (with_reducible repeat (first | refine blk_drewN ?_ _ | refine blk_drew ?_ | refine blk_alloc ?_ _)); exact BK283.out⟩, ⟨by (with_reducible repeat (first | refine blk_drewN ?_ _ | refine blk_drew ?_ | refine blk_alloc ?_ _)); refine blk_put (cs := #[.int .i64 a0_0, .bool a0_1, .bool t284, .slice Ao14 t285.length co14, .int .i64 t288, .string a0_5, .slice Ao13 t289.length co13, .slice none 0 0]) ?_ 7 _ rfl; (with_reducible repeat (first | refine blk_drewN ?_ _ | refine blk_drew ?_ | refine blk_alloc ?_ _)); refine blk_put (cs := #[.int .i64 a0_0, .bool a0_1, .bool t284, .slice Ao14 t285.length co14, .int .i64 t288, .string a0_5, .slice none 0 0, .slice none 0 0]) ?_ 6 _ rfl; (with_reducible repeat (first | refine blk_drewN ?_ _ | refine blk_drew ?_ | refine blk_alloc ?_ _)); refine blk_put (cs := #[.int .i64 a0_0, .bool a0_1, .bool t284, .slice Ao14 t285.length co14, .int .i64 t288, .string (⟨#[]⟩ : ByteArray), .slice none 0 0, .slice none 0 0]) ?_ 5 _ rfl; (with_reducible repeat (first | refine blk_drewN ?_ _ | refine blk_drew ?_ | refine blk_alloc ?_ _)); refine blk_put (cs := #[.int .i64 a0_0, .bool a0_1, .bool t284, .slice Ao14 t285.length co14, .int .i64 0, .string (⟨#[]⟩ : ByteArray), .slice none 0 0, .slice none 0 0]) ?_ 4 _ rfl; (with_reducible repeat (first | refine blk_drewN ?_ _ | refine blk_drew ?_ | refine blk_alloc ?_ _)); refine blk_put (cs := #[.int .i64 a0_0, .bool a0_1, .bool t284, .slice none 0 0, .int .i64 0, .string (⟨#[]⟩ : ByteArray), .slice none 0 0, .slice none 0 0]) ?_ 3 _ rfl; (with_reducible repeat (first | refine blk_drewN ?_ _ | refine blk_drew ?_ | refine blk_alloc ?_ _)); refine blk_put (cs := #[.int .i64 a0_0, .bool a0_1, .bool false, .slice none 0 0, .int .i64 0, .string (⟨#[]⟩ : ByteArray), .slice none 0 0, .slice none 0 0]) ?_ 2 _ rfl; (with_reducible repeat (first | refine blk_drewN ?_ _ | refine blk_drew ?_ | refine blk_alloc ?_ _)); refine blk_put (cs := #[.int .i64 a0_0, .bool false, .bool false, .slice none 0 0, .int .i64 0, .string (⟨#[]⟩ : ByteArray), .slice none 0 0, .slice none 0 0]) ?_ 1 _ rfl; (with_reducible repeat (first | refine blk_drewN ?_ _ | refine blk_drew ?_ | refine blk_alloc ?_ _)); refine blk_put (cs := #[.int .i64 0, .bool false, .bool false, .slice none 0 0, .int .i64 0, .string (⟨#[]⟩ : ByteArray), .slice none 0 0, .slice none 0 0]) ?_ 0 _ rfl; (with_reducible repeat (first | refine blk_drewN ?_ _ | refine blk_drew ?_ | refine blk_alloc ?_ _)); exact BK292.out⟩, ⟨by repeat (first | (with_reducible first | exact HB.out | apply below_alloc | apply pw_below_drewN | apply below_drew1 | refine below_set ?_ GE282.out | refine below_set ?_ GE283.out | refine below_set ?_ GE292.out) | exact HB.out)⟩⟩
 case round =>
  clear H'
  obtain ⟨x4_1, x293007_1, u293007, rfl, HA, HK1, HO_293003, HO_293006, HO_293007, BK282, BK283, BK292, HB⟩ := hrel
  cases gk with
  | zero => exact absurd HA.out (by simp [erratumlaw00_Tree.l0])
  | succ k1 =>
   have H := HA.out
   clear HA
   simp only [erratumlaw00_Tree.l0] at H
   by_cases c23 : x4_1 < (l0_7.length : Int)
   rotate_left
   ·rw [if_neg c23] at H
    have c23b0 : decide (x4_1 < (l0_7.length : Int)) = false := decide_eq_false c23
    clear c23
    simp only [Option.some.injEq, Prod.mk.injEq] at H
    obtain ⟨rfl, rfl, rfl, rfl, rfl, rfl, rfl, rfl⟩ := H
    have hnb38 := NB282_283.out
    have hnc38 := NB283_282.out
    have hnb39 := NB282_292.out
    have hnc39 := NB292_282.out
    have hcz40_0 : wr.cell? ⟨gb282, 0, none⟩ = some (.int .i64 a0_0) := (blk_cell BK282.out 0).trans rfl
    have hcz40_1 : wr.cell? ⟨gb282, 1, none⟩ = some (.bool a0_1) := (blk_cell BK282.out 1).trans rfl
    have hcz40_2 : wr.cell? ⟨gb282, 2, none⟩ = some (.bool a0_2) := (blk_cell BK282.out 2).trans rfl
    have hcz40_3 : wr.cell? ⟨gb282, 3, none⟩ = some (.slice A0_3 l0_3.length c0_3) := (blk_cell BK282.out 3).trans rfl
    have hcz40_4 : wr.cell? ⟨gb282, 4, none⟩ = some (.int .i64 a0_4) := (blk_cell BK282.out 4).trans rfl
    have hcz40_5 : wr.cell? ⟨gb282, 5, none⟩ = some (.string a0_5) := (blk_cell BK282.out 5).trans rfl
    have hcz40_6 : wr.cell? ⟨gb282, 6, none⟩ = some (.slice A0_6 l0_6.length c0_6) := (blk_cell BK282.out 6).trans rfl
    have hcz40_7 : wr.cell? ⟨gb282, 7, none⟩ = some (.slice A0_7 l0_7.length c0_7) := (blk_cell BK282.out 7).trans rfl
    have hfz40_0 := blk_frozen BK282.out 0
    have hfz40_1 := blk_frozen BK282.out 1
    have hfz40_2 := blk_frozen BK282.out 2
    have hfz40_3 := blk_frozen BK282.out 3
    have hfz40_4 := blk_frozen BK282.out 4
    have hfz40_5 := blk_frozen BK282.out 5
    have hfz40_6 := blk_frozen BK282.out 6
    have hfz40_7 := blk_frozen BK282.out 7
    have hnb41 := NB292_283.out
    have hnc41 := NB283_292.out
    have hcz42_0 : wr.cell? ⟨gb292, 0, none⟩ = some (.int .i64 a0_0) := (blk_cell BK292.out 0).trans rfl
    have hcz42_1 : wr.cell? ⟨gb292, 1, none⟩ = some (.bool a0_1) := (blk_cell BK292.out 1).trans rfl
    have hcz42_2 : wr.cell? ⟨gb292, 2, none⟩ = some (.bool t284) := (blk_cell BK292.out 2).trans rfl
    have hcz42_3 : wr.cell? ⟨gb292, 3, none⟩ = some (.slice Ao14 t285.length co14) := (blk_cell BK292.out 3).trans rfl
    have hcz42_4 : wr.cell? ⟨gb292, 4, none⟩ = some (.int .i64 t288) := (blk_cell BK292.out 4).trans rfl
    have hcz42_5 : wr.cell? ⟨gb292, 5, none⟩ = some (.string a0_5) := (blk_cell BK292.out 5).trans rfl
    have hcz42_6 : wr.cell? ⟨gb292, 6, none⟩ = some (.slice Ao13 t289.length co13) := (blk_cell BK292.out 6).trans rfl
    have hcz42_7 : wr.cell? ⟨gb292, 7, none⟩ = some (u293007) := (blk_cell BK292.out 7).trans rfl
    have hfz42_0 := blk_frozen BK292.out 0
    have hfz42_1 := blk_frozen BK292.out 1
    have hfz42_2 := blk_frozen BK292.out 2
    have hfz42_3 := blk_frozen BK292.out 3
    have hfz42_4 := blk_frozen BK292.out 4
    have hfz42_5 := blk_frozen BK292.out 5
    have hfz42_6 := blk_frozen BK292.out 6
    have hfz42_7 := blk_frozen BK292.out 7
    have hcz43_0 : wr.cell? ⟨gb283, 0, none⟩ = some (.int .i64 0) := (blk_cell BK283.out 0).trans rfl
    have hcz43_1 : wr.cell? ⟨gb283, 1, none⟩ = some (.bool false) := (blk_cell BK283.out 1).trans rfl
    have hcz43_2 : wr.cell? ⟨gb283, 2, none⟩ = some (.bool false) := (blk_cell BK283.out 2).trans rfl
    have hcz43_3 : wr.cell? ⟨gb283, 3, none⟩ = some (.slice none 0 0) := (blk_cell BK283.out 3).trans rfl
    have hcz43_4 : wr.cell? ⟨gb283, 4, none⟩ = some (.int .i64 0) := (blk_cell BK283.out 4).trans rfl
    have hcz43_5 : wr.cell? ⟨gb283, 5, none⟩ = some (.string (⟨#[]⟩ : ByteArray)) := (blk_cell BK283.out 5).trans rfl
    have hcz43_6 : wr.cell? ⟨gb283, 6, none⟩ = some (.slice none 0 0) := (blk_cell BK283.out 6).trans rfl
    have hcz43_7 : wr.cell? ⟨gb283, 7, none⟩ = some (.slice none 0 0) := (blk_cell BK283.out 7).trans rfl
    have hfz43_0 := blk_frozen BK283.out 0
    have hfz43_1 := blk_frozen BK283.out 1
    have hfz43_2 := blk_frozen BK283.out 2
    have hfz43_3 := blk_frozen BK283.out 3
    have hfz43_4 := blk_frozen BK283.out 4
    have hfz43_5 := blk_frozen BK283.out 5
    have hfz43_6 := blk_frozen BK283.out 6
    have hfz43_7 := blk_frozen BK283.out 7
    obtain ⟨Ao44, co44, eo44⟩ := Kd.R_slice HO_293007.out
    subst eo44
    go_wp2
    refine bodyPost_ret (results_cell_row rfl _ _ gb283 50 #[.int .i64 a0_0, .bool a0_1, .bool t284, .slice Ao14 t285.length co14, .int .i64 t288, .string a0_5, .slice Ao13 t289.length co13, .slice Ao44 x293007_1.length co44] (0, 0) _ rfl (by (with_reducible repeat (first | refine blk_drewN ?_ _ | refine blk_drew ?_ | refine blk_alloc ?_ _)); refine blk_put (cs := #[.int .i64 a0_0, .bool a0_1, .bool t284, .slice Ao14 t285.length co14, .int .i64 t288, .string a0_5, .slice Ao13 t289.length co13, .slice none 0 0]) ?_ 7 _ rfl; (with_reducible repeat (first | refine blk_drewN ?_ _ | refine blk_drew ?_ | refine blk_alloc ?_ _)); refine blk_put (cs := #[.int .i64 a0_0, .bool a0_1, .bool t284, .slice Ao14 t285.length co14, .int .i64 t288, .string a0_5, .slice none 0 0, .slice none 0 0]) ?_ 6 _ rfl; (with_reducible repeat (first | refine blk_drewN ?_ _ | refine blk_drew ?_ | refine blk_alloc ?_ _)); refine blk_put (cs := #[.int .i64 a0_0, .bool a0_1, .bool t284, .slice Ao14 t285.length co14, .int .i64 t288, .string (⟨#[]⟩ : ByteArray), .slice none 0 0, .slice none 0 0]) ?_ 5 _ rfl; (with_reducible repeat (first | refine blk_drewN ?_ _ | refine blk_drew ?_ | refine blk_alloc ?_ _)); refine blk_put (cs := #[.int .i64 a0_0, .bool a0_1, .bool t284, .slice Ao14 t285.length co14, .int .i64 0, .string (⟨#[]⟩ : ByteArray), .slice none 0 0, .slice none 0 0]) ?_ 4 _ rfl; (with_reducible repeat (first | refine blk_drewN ?_ _ | refine blk_drew ?_ | refine blk_alloc ?_ _)); refine blk_put (cs := #[.int .i64 a0_0, .bool a0_1, .bool t284, .slice none 0 0, .int .i64 0, .string (⟨#[]⟩ : ByteArray), .slice none 0 0, .slice none 0 0]) ?_ 3 _ rfl; (with_reducible repeat (first | refine blk_drewN ?_ _ | refine blk_drew ?_ | refine blk_alloc ?_ _)); refine blk_put (cs := #[.int .i64 a0_0, .bool a0_1, .bool false, .slice none 0 0, .int .i64 0, .string (⟨#[]⟩ : ByteArray), .slice none 0 0, .slice none 0 0]) ?_ 2 _ rfl; (with_reducible repeat (first | refine blk_drewN ?_ _ | refine blk_drew ?_ | refine blk_alloc ?_ _)); refine blk_put (cs := #[.int .i64 a0_0, .bool false, .bool false, .slice none 0 0, .int .i64 0, .string (⟨#[]⟩ : ByteArray), .slice none 0 0, .slice none 0 0]) ?_ 1 _ rfl; (with_reducible repeat (first | refine blk_drewN ?_ _ | refine blk_drew ?_ | refine blk_alloc ?_ _)); refine blk_put (cs := #[.int .i64 0, .bool false, .bool false, .slice none 0 0, .int .i64 0, .string (⟨#[]⟩ : ByteArray), .slice none 0 0, .slice none 0 0]) ?_ 0 _ rfl; (with_reducible repeat (first | refine blk_drewN ?_ _ | refine blk_drew ?_ | refine blk_alloc ?_ _)); exact BK283.out) Try.underlying50 rfl (by kernel_rfl)) rfl ?_
    exact ⟨_, _, _, by first | rfl | (simp [errW_none, errW_some] <;> rfl) | (simp [*, errW_none, errW_some] <;> rfl), by (with_reducible repeat (first | apply Kd.R_alloc | apply Kd.R_drewN | apply Kd.R_drew)); exact Kd.R_mono (Kd.R_far (p := ⟨gb283, 7, none⟩) (Kd.R_far (p := ⟨gb283, 6, none⟩) (Kd.R_far (p := ⟨gb283, 5, none⟩) (Kd.R_far (p := ⟨gb283, 4, none⟩) (Kd.R_far (p := ⟨gb283, 3, none⟩) (Kd.R_far (p := ⟨gb283, 2, none⟩) (Kd.R_far (p := ⟨gb283, 1, none⟩) (Kd.R_far (p := ⟨gb283, 0, none⟩) (Kd.R_types HO_293003.out BK283.out (by decide)) (fun _ hk => hk.2) (.int .i64 a0_0)) (fun _ hk => hk.2) (.bool a0_1)) (fun _ hk => hk.2) (.bool t284)) (fun _ hk => hk.2) (.slice Ao14 t285.length co14)) (fun _ hk => hk.2) (.int .i64 t288)) (fun _ hk => hk.2) (.string a0_5)) (fun _ hk => hk.2) (.slice Ao13 t289.length co13)) (fun _ hk => hk.2) (.slice Ao44 x293007_1.length co44)) (fun _ hk => trivial), by (with_reducible repeat (first | apply Kd.R_alloc | apply Kd.R_drewN | apply Kd.R_drew)); exact Kd.R_mono (Kd.R_far (p := ⟨gb283, 7, none⟩) (Kd.R_far (p := ⟨gb283, 6, none⟩) (Kd.R_far (p := ⟨gb283, 5, none⟩) (Kd.R_far (p := ⟨gb283, 4, none⟩) (Kd.R_far (p := ⟨gb283, 3, none⟩) (Kd.R_far (p := ⟨gb283, 2, none⟩) (Kd.R_far (p := ⟨gb283, 1, none⟩) (Kd.R_far (p := ⟨gb283, 0, none⟩) (Kd.R_types HO_293006.out BK283.out (by decide)) (fun _ hk => hk.2) (.int .i64 a0_0)) (fun _ hk => hk.2) (.bool a0_1)) (fun _ hk => hk.2) (.bool t284)) (fun _ hk => hk.2) (.slice Ao14 t285.length co14)) (fun _ hk => hk.2) (.int .i64 t288)) (fun _ hk => hk.2) (.string a0_5)) (fun _ hk => hk.2) (.slice Ao13 t289.length co13)) (fun _ hk => hk.2) (.slice Ao44 x293007_1.length co44)) (fun _ hk => trivial), by (with_reducible repeat (first | apply Kd.R_alloc | apply Kd.R_drewN | apply Kd.R_drew)); exact Kd.R_mono (Kd.R_far (p := ⟨gb283, 7, none⟩) (Kd.R_far (p := ⟨gb283, 6, none⟩) (Kd.R_far (p := ⟨gb283, 5, none⟩) (Kd.R_far (p := ⟨gb283, 4, none⟩) (Kd.R_far (p := ⟨gb283, 3, none⟩) (Kd.R_far (p := ⟨gb283, 2, none⟩) (Kd.R_far (p := ⟨gb283, 1, none⟩) (Kd.R_far (p := ⟨gb283, 0, none⟩) (Kd.R_mono HO_293007.out (fun k_ hk => (⟨hk, hk.2.2.2.1⟩ : _ ∧ k_ ≠ gb283))) (fun _ hk => hk.2) (.int .i64 a0_0)) (fun _ hk => hk.2) (.bool a0_1)) (fun _ hk => hk.2) (.bool t284)) (fun _ hk => hk.2) (.slice Ao14 t285.length co14)) (fun _ hk => hk.2) (.int .i64 t288)) (fun _ hk => hk.2) (.string a0_5)) (fun _ hk => hk.2) (.slice Ao13 t289.length co13)) (fun _ hk => hk.2) (.slice Ao44 x293007_1.length co44)) (fun _ hk => ⟨hk.1.1, hk.1.2.1⟩), by repeat (first | (with_reducible first | exact HB.out | apply below_alloc | apply pw_below_drewN | apply below_drew1 | refine below_set ?_ GE282.out | refine below_set ?_ GE283.out | refine below_set ?_ GE292.out) | exact HB.out)⟩
   rw [if_pos c23] at H
   have c23b0 : decide (x4_1 < (l0_7.length : Int)) = true := decide_eq_true c23
   clear c23
   by_cases c24 : 0 ≤ x4_1
   rotate_left
   ·rw [if_neg c24] at H
    exact absurd H (by simp)
   rw [if_pos c24] at H
   have c24b0 : decide (0 ≤ x4_1) = true := decide_eq_true c24
   clear c24
   replace H := Option.bind_eq_some_iff.mp H
   obtain ⟨⟨t294, t295, t296, t297, t300, t301, t302, t305⟩, A250, H⟩ := H
   replace H : (if x293007_1.length < 1172812402961 then (erratumlaw00_Tree.l0 k1 (wrap64 (x4_1 + 1)) a0_0 a0_1 a0_2 l0_3 a0_4 a0_5 l0_6 l0_7 a0_0 a0_1 t284 t285 t288 a0_5 t289 (x293007_1 ++ [(⟨t294, t295, (⟨t296, t297, t300⟩ : S48), t301, t302, t305⟩ : S50)])) else (none)) = some (r1, r2, r3, r4, r5, r6, r7, r8) := H
   have A25 := Aside0.mk A250
   clear A250
   by_cases c26 : x293007_1.length < 1172812402961
   rotate_left
   ·rw [if_neg c26] at H
    exact absurd H (by simp)
   rw [if_pos c26] at H
   have LMc26 := Aside0.mk c26
   clear c26
   obtain ⟨y308, hy308⟩ : ∃ y_ : List (S50), y_ = (x293007_1 ++ [(⟨t294, t295, (⟨t296, t297, t300⟩ : S48), t301, t302, t305⟩ : S50)]) := ⟨_, rfl⟩
   replace H : (erratumlaw00_Tree.l0 k1 (wrap64 (x4_1 + 1)) a0_0 a0_1 a0_2 l0_3 a0_4 a0_5 l0_6 l0_7 a0_0 a0_1 t284 t285 t288 a0_5 t289 y308) = some (r1, r2, r3, r4, r5, r6, r7, r8) := by first | (rw [hy308]; with_reducible exact H) | (have H2_ := (Option.bind_some _ _).symm.trans H; rw [hy308]; with_reducible exact H2_) | (have H2_ := (Option.bind_some _ _).symm.trans H; with_reducible exact H2_) | with_reducible exact H | (rw [hy308]; exact H) | exact H
   have Ny308 := Aside0.mk hy308
   clear hy308
   have H' := Aside0.mk H
   clear H
   have hnb27 := NB282_283.out
   have hnc27 := NB283_282.out
   have hnb28 := NB282_292.out
   have hnc28 := NB292_282.out
   have hcz29_0 : wr.cell? ⟨gb282, 0, none⟩ = some (.int .i64 a0_0) := (blk_cell BK282.out 0).trans rfl
   have hcz29_1 : wr.cell? ⟨gb282, 1, none⟩ = some (.bool a0_1) := (blk_cell BK282.out 1).trans rfl
   have hcz29_2 : wr.cell? ⟨gb282, 2, none⟩ = some (.bool a0_2) := (blk_cell BK282.out 2).trans rfl
   have hcz29_3 : wr.cell? ⟨gb282, 3, none⟩ = some (.slice A0_3 l0_3.length c0_3) := (blk_cell BK282.out 3).trans rfl
   have hcz29_4 : wr.cell? ⟨gb282, 4, none⟩ = some (.int .i64 a0_4) := (blk_cell BK282.out 4).trans rfl
   have hcz29_5 : wr.cell? ⟨gb282, 5, none⟩ = some (.string a0_5) := (blk_cell BK282.out 5).trans rfl
   have hcz29_6 : wr.cell? ⟨gb282, 6, none⟩ = some (.slice A0_6 l0_6.length c0_6) := (blk_cell BK282.out 6).trans rfl
   have hcz29_7 : wr.cell? ⟨gb282, 7, none⟩ = some (.slice A0_7 l0_7.length c0_7) := (blk_cell BK282.out 7).trans rfl
   have hfz29_0 := blk_frozen BK282.out 0
   have hfz29_1 := blk_frozen BK282.out 1
   have hfz29_2 := blk_frozen BK282.out 2
   have hfz29_3 := blk_frozen BK282.out 3
   have hfz29_4 := blk_frozen BK282.out 4
   have hfz29_5 := blk_frozen BK282.out 5
   have hfz29_6 := blk_frozen BK282.out 6
   have hfz29_7 := blk_frozen BK282.out 7
   try go_wp2
   have n0_ := Aside0.mk (Kd.R_drew HO_293003.out)
   have n1_ := Aside0.mk (Kd.R_drew HO_293006.out)
   have n2_ := Aside0.mk (Kd.R_drew HO_293007.out)
   have n3_ := Aside0.mk (blk_drew BK282.out)
   have n4_ := Aside0.mk (blk_drew BK283.out)
   have n5_ := Aside0.mk (blk_drew BK292.out)
   have n6_ := Aside0.mk (below_drew1 HB.out)
   clear HO_293003
   clear HO_293006
   clear HO_293007
   clear BK282
   clear BK283
   clear BK292
   clear HB
   have HO_293003 := n0_
   have HO_293006 := n1_
   have HO_293007 := n2_
   have BK282 := n3_
   have BK283 := n4_
   have BK292 := n5_
   have HB := n6_
   clear n0_ n1_ n2_ n3_ n4_ n5_ n6_
   have p293 : 0 ≤ (x4_1 : Int) := of_decide_eq_true (by first | (with_reducible assumption) | assumption)
   have q293 : x4_1 < (l0_7.length : Int) := of_decide_eq_true (by first | (with_reducible assumption) | assumption)
   obtain ⟨ad293, A293_3, c293_3, A293_6, c293_6, A293_7, c293_7, e293, hx293_0, hx293_1, hx293_2, hx293_3, hx293_4, hx293_5, hx293_6, hx293_7, hl293_3, hi293_3, hl293_6, hi293_6, hl293_7, hi293_7⟩ := at_T50 HR0_7.out x4_1 p293 q293
   have hw293_7 := hx293_7
   have hw293_6 := hx293_6
   have hw293_5 := hx293_5
   have hw293_4 := hx293_4
   have hw293_3 := hx293_3
   have hw293_2 := hx293_2
   have hw293_1 := hx293_1
   have hw293_0 := hx293_0
   cases e293
   replace hx293_0 := (HB.out.cell (World.block_lt_of_cell? w _ hx293_0)).trans hx293_0
   replace hx293_1 := (HB.out.cell (World.block_lt_of_cell? w _ hx293_1)).trans hx293_1
   replace hx293_2 := (HB.out.cell (World.block_lt_of_cell? w _ hx293_2)).trans hx293_2
   replace hx293_3 := (HB.out.cell (World.block_lt_of_cell? w _ hx293_3)).trans hx293_3
   replace hx293_4 := (HB.out.cell (World.block_lt_of_cell? w _ hx293_4)).trans hx293_4
   replace hx293_5 := (HB.out.cell (World.block_lt_of_cell? w _ hx293_5)).trans hx293_5
   replace hx293_6 := (HB.out.cell (World.block_lt_of_cell? w _ hx293_6)).trans hx293_6
   replace hx293_7 := (HB.out.cell (World.block_lt_of_cell? w _ hx293_7)).trans hx293_7
   have HR293_3 := Aside0.mk hi293_3
   have HC293_3 := Aside0.mk hl293_3
   clear hi293_3 hl293_3
   have HR293_6 := Aside0.mk hi293_6
   have HC293_6 := Aside0.mk hl293_6
   clear hi293_6 hl293_6
   have HR293_7 := Aside0.mk hi293_7
   have HC293_7 := Aside0.mk hl293_7
   clear hi293_7 hl293_7
   replace p293 := eq_true p293
   replace q293 := eq_true q293
   refine start_ (n := 12) (S := fun w' => w'.cell? ⟨gb292, 0, none⟩ = some (.int .i64 a0_0) ∧ w'.cell? ⟨gb292, 1, none⟩ = some (.bool a0_1) ∧ w'.cell? ⟨gb292, 2, none⟩ = some (.bool t284) ∧ w'.cell? ⟨gb292, 3, none⟩ = some (.slice Ao14 t285.length co14) ∧ w'.cell? ⟨gb292, 4, none⟩ = some (.int .i64 t288) ∧ w'.cell? ⟨gb292, 5, none⟩ = some (.string a0_5) ∧ w'.cell? ⟨gb292, 6, none⟩ = some (.slice Ao13 t289.length co13) ∧ w'.cell? ⟨gb292, 7, none⟩ = some (u293007) ∧ w'.cell? ⟨gb282, 0, none⟩ = some (.int .i64 a0_0) ∧ w'.cell? ⟨gb282, 1, none⟩ = some (.bool a0_1) ∧ w'.cell? ⟨gb282, 2, none⟩ = some (.bool a0_2) ∧ w'.cell? ⟨gb282, 3, none⟩ = some (.slice A0_3 l0_3.length c0_3) ∧ w'.cell? ⟨gb282, 4, none⟩ = some (.int .i64 a0_4) ∧ w'.cell? ⟨gb282, 5, none⟩ = some (.string a0_5) ∧ w'.cell? ⟨gb282, 6, none⟩ = some (.slice A0_6 l0_6.length c0_6) ∧ w'.cell? ⟨gb282, 7, none⟩ = some (.slice (some ad293) l0_7.length c0_7) ∧ w'.cell? (ad293.add ((x4_1).toNat * 8)) = some (.int .i64 ((rd_T50 l0_7 x4_1).f0)) ∧ w'.cell? ⟨(ad293.add ((x4_1).toNat * 8)).block, (ad293.add ((x4_1).toNat * 8)).off + 1, none⟩ = some (.bool ((rd_T50 l0_7 x4_1).f1)) ∧ w'.cell? ⟨(ad293.add ((x4_1).toNat * 8)).block, (ad293.add ((x4_1).toNat * 8)).off + 2, none⟩ = some (.bool ((rd_T50 l0_7 x4_1).f2.f0)) ∧ w'.cell? ⟨(ad293.add ((x4_1).toNat * 8)).block, (ad293.add ((x4_1).toNat * 8)).off + 3, none⟩ = some (.slice A293_3 ((rd_T50 l0_7 x4_1).f2.f1).length c293_3) ∧ w'.cell? ⟨(ad293.add ((x4_1).toNat * 8)).block, (ad293.add ((x4_1).toNat * 8)).off + 4, none⟩ = some (.int .i64 ((rd_T50 l0_7 x4_1).f2.f2)) ∧ w'.cell? ⟨(ad293.add ((x4_1).toNat * 8)).block, (ad293.add ((x4_1).toNat * 8)).off + 5, none⟩ = some (.string ((rd_T50 l0_7 x4_1).f3)) ∧ w'.cell? ⟨(ad293.add ((x4_1).toNat * 8)).block, (ad293.add ((x4_1).toNat * 8)).off + 6, none⟩ = some (.slice A293_6 ((rd_T50 l0_7 x4_1).f4).length c293_6) ∧ w'.cell? ⟨(ad293.add ((x4_1).toNat * 8)).block, (ad293.add ((x4_1).toNat * 8)).off + 7, none⟩ = some (.slice A293_7 ((rd_T50 l0_7 x4_1).f5).length c293_7)) (ds := [11]) #[Z, Z, Z, Z, Z, Z, Z, Z, Z, Z, Z, Z] (by kernel_rfl) rfl rfl ⟨(blk_cell BK292.out 0).trans rfl, (blk_cell BK292.out 1).trans rfl, (blk_cell BK292.out 2).trans rfl, (blk_cell BK292.out 3).trans rfl, (blk_cell BK292.out 4).trans rfl, (blk_cell BK292.out 5).trans rfl, (blk_cell BK292.out 6).trans rfl, (blk_cell BK292.out 7).trans rfl, (blk_cell BK282.out 0).trans rfl, (blk_cell BK282.out 1).trans rfl, (blk_cell BK282.out 2).trans rfl, (blk_cell BK282.out 3).trans rfl, (blk_cell BK282.out 4).trans rfl, (blk_cell BK282.out 5).trans rfl, (blk_cell BK282.out 6).trans rfl, (blk_cell BK282.out 7).trans rfl, ((HB.out.cell (World.block_lt_of_cell? w _ hw293_0)).trans hw293_0), ((HB.out.cell (World.block_lt_of_cell? w _ hw293_1)).trans hw293_1), ((HB.out.cell (World.block_lt_of_cell? w _ hw293_2)).trans hw293_2), ((HB.out.cell (World.block_lt_of_cell? w _ hw293_3)).trans hw293_3), ((HB.out.cell (World.block_lt_of_cell? w _ hw293_4)).trans hw293_4), ((HB.out.cell (World.block_lt_of_cell? w _ hw293_5)).trans hw293_5), ((HB.out.cell (World.block_lt_of_cell? w _ hw293_6)).trans hw293_6), ((HB.out.cell (World.block_lt_of_cell? w _ hw293_7)).trans hw293_7)⟩ (fun hHeld => ?_); refine with_tabW erratumlaw00_Tree.tab5 erratumlaw00_Tree.bits5 (fun HT_ HW_ => ?_)
   generalize wr.drew = w30 at HO_293003 HO_293006 HO_293007 BK282 BK283 BK292 HB HR293_3 HR293_6 HR293_7 hx293_0 hx293_1 hx293_2 hx293_3 hx293_4 hx293_5 hx293_6 hx293_7 hHeld ⊢
   refine pure_ (i := 0) (N := some 25) (v := ?_) (a' := ?_) #[Y, Z, Z, Z, Z, Z, Z, Z, Z, Z, Z, Z] rfl rfl (any_of HT_.out (by kernel_rfl)) (fun _ _ _ h => h) (Or.inl ⟨by rfl, ?_⟩) ?_ ?_
   rotate_left
   ·intro w'
    go_simp
    with_reducible rfl
   rotate_left
   ·simp only [Act.put, s0_, s1_, s2_, i64_w, i32_w]
    rfl
   refine pure_ (i := 2) (N := some 27) (v := ?_) (a' := ?_) #[Y, Z, Y, Z, Z, Z, Z, Z, Z, Z, Z, Z] rfl rfl (any_of HT_.out (by kernel_rfl)) (fun _ _ _ h => h) (Or.inl ⟨by rfl, ?_⟩) ?_ ?_
   rotate_left
   ·intro w'
    go_simp
    with_reducible rfl
   rotate_left
   ·simp only [Act.put, s0_, s1_, s2_, i64_w, i32_w]
    rfl
   refine pure_ (i := 4) (N := some 29) (v := ?_) (a' := ?_) #[Y, Z, Y, Z, Y, Z, Z, Z, Z, Z, Z, Z] rfl rfl (any_of HT_.out (by kernel_rfl)) (fun _ _ _ h => h) (Or.inl ⟨by rfl, ?_⟩) ?_ ?_
   rotate_left
   ·intro w'
    go_simp
    with_reducible rfl
   rotate_left
   ·simp only [Act.put, s0_, s1_, s2_, i64_w, i32_w]
    rfl
   refine take_ (i := 1) (N := some 26) (v := ?_) (a' := ?_) #[Y, Y, Y, Z, Y, Z, Z, Z, Z, Z, Z, Z] rfl rfl (take_ofW HT_.out HW_.out (by kernel_rfl)) (fun _ _ _ h => h) (Or.inl ⟨by rfl, ?_⟩) hHeld ?_ ?_
   rotate_left
   ·rintro w' ⟨s0, s1, s2, s3, s4, s5, s6, s7, s8, s9, s10, s11, s12, s13, s14, s15, s16, s17, s18, s19, s20, s21, s22, s23⟩
    go_simp
    with_reducible rfl
   rotate_left
   ·simp only [Act.put, s0_, s1_, s2_, i64_w, i32_w]
    rfl
   refine take_ (i := 3) (N := some 28) (v := ?_) (a' := ?_) #[Y, Y, Y, Y, Y, Z, Z, Z, Z, Z, Z, Z] rfl rfl (take_ofW HT_.out HW_.out (by kernel_rfl)) (fun _ _ _ h => h) (Or.inl ⟨by rfl, ?_⟩) hHeld ?_ ?_
   rotate_left
   ·rintro w' ⟨s0, s1, s2, s3, s4, s5, s6, s7, s8, s9, s10, s11, s12, s13, s14, s15, s16, s17, s18, s19, s20, s21, s22, s23⟩
    go_simp
    with_reducible rfl
   rotate_left
   ·simp only [Act.put, s0_, s1_, s2_, i64_w, i32_w]
    rfl
   refine pure_ (i := 5) (N := some 30) (v := ?_) (a' := ?_) #[Y, Y, Y, Y, Y, Y, Z, Z, Z, Z, Z, Z] rfl rfl (any_of HT_.out (by kernel_rfl)) (fun _ _ _ h => h) (Or.inl ⟨by rfl, ?_⟩) ?_ ?_
   rotate_left
   ·intro w'
    go_simp
    with_reducible rfl
   rotate_left
   ·simp only [Act.put, s0_, s1_, s2_, i64_w, i32_w]
    rfl
   refine take_ (i := 6) (N := some 31) (v := ?_) (a' := ?_) #[Y, Y, Y, Y, Y, Y, Y, Z, Z, Z, Z, Z] rfl rfl (take_ofW HT_.out HW_.out (by kernel_rfl)) (fun _ _ _ h => h) (Or.inl ⟨by rfl, ?_⟩) hHeld ?_ ?_
   rotate_left
   ·rintro w' ⟨s0, s1, s2, s3, s4, s5, s6, s7, s8, s9, s10, s11, s12, s13, s14, s15, s16, s17, s18, s19, s20, s21, s22, s23⟩
    go_simp
    with_reducible rfl
   rotate_left
   ·simp only [Act.put, s0_, s1_, s2_, i64_w, i32_w]
    rfl
   refine one_ (i := 7) (N := some 32) #[Y, Y, Y, Y, Y, Y, Y, Y, Z, Z, Z, Z] rfl rfl (one_of HT_.out (by kernel_rfl)) (by decide) (fun K hK => ?_)
   refine goes_ Try.func42 (by kernel_rfl) rfl #[.agg #[.int .i64 ((rd_T50 l0_7 x4_1).f0), .bool ((rd_T50 l0_7 x4_1).f1), .bool ((rd_T50 l0_7 x4_1).f2.f0), .slice A293_3 ((rd_T50 l0_7 x4_1).f2.f1).length c293_3, .int .i64 ((rd_T50 l0_7 x4_1).f2.f2), .string ((rd_T50 l0_7 x4_1).f3), .slice A293_6 ((rd_T50 l0_7 x4_1).f4).length c293_6, .slice A293_7 ((rd_T50 l0_7 x4_1).f5).length c293_7]] (by rfl) rfl rfl (by (try simp only [List.map_toArray, List.map_cons, List.map_nil]); first | done | rfl | (simp only [List.length_drop, List.length_take]; rfl)) ?_
   with_reducible refine (ih k1 (by have := HK1.out; omega) ((rd_T50 l0_7 x4_1).f0) ((rd_T50 l0_7 x4_1).f1) ((rd_T50 l0_7 x4_1).f2.f0) _ _ ((rd_T50 l0_7 x4_1).f2.f1) ((rd_T50 l0_7 x4_1).f2.f2) ((rd_T50 l0_7 x4_1).f3) _ _ ((rd_T50 l0_7 x4_1).f4) _ _ ((rd_T50 l0_7 x4_1).f5) t294 t295 t296 t297 t300 t301 t302 t305 _ ?side1 ?side2 ?side3 ?side4 ?side5 ?side6 A25.out).mono ?_
   (case side1 => repeat (first | exact (Kd.C_below HR293_3.out HB.out) | (with_reducible refine Kd.C_alloc ?_ _) | (with_reducible refine Kd.C_drewN ?_ _) | (with_reducible refine Kd.C_drew ?_)))
   (case side2 => exact HC293_3.out)
   (case side3 => repeat (first | exact (Kd.C_below HR293_6.out HB.out) | (with_reducible refine Kd.C_alloc ?_ _) | (with_reducible refine Kd.C_drewN ?_ _) | (with_reducible refine Kd.C_drew ?_)))
   (case side4 => exact HC293_6.out)
   (case side5 => repeat (first | exact (Kd.C_below HR293_7.out HB.out) | (with_reducible refine Kd.C_alloc ?_ _) | (with_reducible refine Kd.C_drewN ?_ _) | (with_reducible refine Kd.C_drew ?_)))
   (case side6 => exact HC293_7.out)
   rintro e w31 ⟨v298, v303, v306, rfl, ho0, ho1, ho2, hb⟩
   refine ⟨_, rfl, ?_⟩
   have n0_ := Aside0.mk (Kd.R_elder' (by (with_reducible repeat (first | apply Kd.R_alloc | apply Kd.R_drewN | apply Kd.R_drew)); exact HO_293003.out) (Kd.R_base ho0) hb)
   have n1_ := Aside0.mk (Kd.R_elder' (by (with_reducible repeat (first | apply Kd.R_alloc | apply Kd.R_drewN | apply Kd.R_drew)); exact HO_293006.out) (Kd.R_base ho1) hb)
   have n2_ := Aside0.mk (Kd.R_mono (Kd.R_told (Kd.R_told (Kd.R_told (Kd.R_old (by (with_reducible repeat (first | apply Kd.R_alloc | apply Kd.R_drewN | apply Kd.R_drew)); exact HO_293007.out) hb) (Kd.R_base ho0)) (Kd.R_base ho1)) (Kd.R_base ho2)) (fun _ h_ => h_.1))
   have n3_ := Aside0.mk (Kd.R_lower (Kd.R_new' ho0 (Kd.R_lt (by (with_reducible repeat (first | apply Kd.R_alloc | apply Kd.R_drewN | apply Kd.R_drew)); exact HO_293003.out))) (below_size (by repeat (first | (with_reducible first | exact HB.out | apply below_alloc | apply pw_below_drewN | apply below_drew1 | refine below_set ?_ GE282.out | refine below_set ?_ GE283.out | refine below_set ?_ GE292.out) | exact HB.out))))
   have n4_ := Aside0.mk (Kd.R_lower (Kd.R_new' ho1 (Kd.R_lt (by (with_reducible repeat (first | apply Kd.R_alloc | apply Kd.R_drewN | apply Kd.R_drew)); exact HO_293006.out))) (below_size (by repeat (first | (with_reducible first | exact HB.out | apply below_alloc | apply pw_below_drewN | apply below_drew1 | refine below_set ?_ GE282.out | refine below_set ?_ GE283.out | refine below_set ?_ GE292.out) | exact HB.out))))
   have n5_ := Aside0.mk (Kd.R_lower (Kd.R_newB (Kd.R_newB (Kd.R_newB (Kd.R_new' (Kd.R_new' (Kd.R_new' ho2 (Kd.R_lt (by (with_reducible repeat (first | apply Kd.R_alloc | apply Kd.R_drewN | apply Kd.R_drew)); exact HO_293003.out))) (Kd.R_lt (by (with_reducible repeat (first | apply Kd.R_alloc | apply Kd.R_drewN | apply Kd.R_drew)); exact HO_293006.out))) (Kd.R_lt (by (with_reducible repeat (first | apply Kd.R_alloc | apply Kd.R_drewN | apply Kd.R_drew)); exact HO_293007.out))) (g := gb282) (o := .cells #[.int .i64 a0_0, .bool a0_1, .bool a0_2, .slice A0_3 l0_3.length c0_3, .int .i64 a0_4, .string a0_5, .slice A0_6 l0_6.length c0_6, .slice (some ad293) l0_7.length c0_7] 50 (0, 0)) (by (with_reducible repeat (first | refine blk_drewN ?_ _ | refine blk_drew ?_ | refine blk_alloc ?_ _)); exact BK282.out)) (g := gb283) (o := .cells #[.int .i64 0, .bool false, .bool false, .slice none 0 0, .int .i64 0, .string (⟨#[]⟩ : ByteArray), .slice none 0 0, .slice none 0 0] 50 (0, 0)) (by (with_reducible repeat (first | refine blk_drewN ?_ _ | refine blk_drew ?_ | refine blk_alloc ?_ _)); exact BK283.out)) (g := gb292) (o := .cells #[.int .i64 a0_0, .bool a0_1, .bool t284, .slice Ao14 t285.length co14, .int .i64 t288, .string a0_5, .slice Ao13 t289.length co13, u293007] 50 (0, 0)) (by (with_reducible repeat (first | refine blk_drewN ?_ _ | refine blk_drew ?_ | refine blk_alloc ?_ _)); exact BK292.out)) (below_size (by repeat (first | (with_reducible first | exact HB.out | apply below_alloc | apply pw_below_drewN | apply below_drew1 | refine below_set ?_ GE282.out | refine below_set ?_ GE283.out | refine below_set ?_ GE292.out) | exact HB.out))))
   have n6_ := Aside0.mk (blk_below (g := gb282) (o := .cells #[.int .i64 a0_0, .bool a0_1, .bool a0_2, .slice A0_3 l0_3.length c0_3, .int .i64 a0_4, .string a0_5, .slice A0_6 l0_6.length c0_6, .slice (some ad293) l0_7.length c0_7] 50 (0, 0)) (by (with_reducible repeat (first | refine blk_drewN ?_ _ | refine blk_drew ?_ | refine blk_alloc ?_ _)); exact BK282.out) hb)
   have n7_ := Aside0.mk (blk_below (g := gb283) (o := .cells #[.int .i64 0, .bool false, .bool false, .slice none 0 0, .int .i64 0, .string (⟨#[]⟩ : ByteArray), .slice none 0 0, .slice none 0 0] 50 (0, 0)) (by (with_reducible repeat (first | refine blk_drewN ?_ _ | refine blk_drew ?_ | refine blk_alloc ?_ _)); exact BK283.out) hb)
   have n8_ := Aside0.mk (blk_below (g := gb292) (o := .cells #[.int .i64 a0_0, .bool a0_1, .bool t284, .slice Ao14 t285.length co14, .int .i64 t288, .string a0_5, .slice Ao13 t289.length co13, u293007] 50 (0, 0)) (by (with_reducible repeat (first | refine blk_drewN ?_ _ | refine blk_drew ?_ | refine blk_alloc ?_ _)); exact BK292.out) hb)
   have n9_ := Aside0.mk (below_step (by repeat (first | (with_reducible first | exact HB.out | apply below_alloc | apply pw_below_drewN | apply below_drew1 | refine below_set ?_ GE282.out | refine below_set ?_ GE283.out | refine below_set ?_ GE292.out) | exact HB.out)) hb)
   clear HO_293003
   clear HO_293006
   clear HO_293007
   clear BK282
   clear BK283
   clear BK292
   clear HB
   have HO_293003 := n0_
   have HO_293006 := n1_
   have HO_293007 := n2_
   have HO299 := n3_
   have HO304 := n4_
   have HO307 := n5_
   have BK282 := n6_
   have BK283 := n7_
   have BK292 := n8_
   have HB := n9_
   clear n0_ n1_ n2_ n3_ n4_ n5_ n6_ n7_ n8_ n9_
   (try clear hb)
   (try clear hb2)
   (try clear hk)
   (try clear hi)
   (try clear ho0)
   (try clear ho1)
   (try clear ho2)
   obtain ⟨Ao33, co33, eo33⟩ := Kd.R_slice HO299.out
   (first | subst eo33 | (injection eo33 with f1_ f2_ f3_; have f4_ := f1_.symm; have f5_ := f3_.symm; clear f1_ f2_ f3_; subst f4_; subst f5_))
   obtain ⟨Ao34, co34, eo34⟩ := Kd.R_slice HO304.out
   (first | subst eo34 | (injection eo34 with f1_ f2_ f3_; have f4_ := f1_.symm; have f5_ := f3_.symm; clear f1_ f2_ f3_; subst f4_; subst f5_))
   obtain ⟨Ao35, co35, eo35⟩ := Kd.R_slice HO307.out
   (first | subst eo35 | (injection eo35 with f1_ f2_ f3_; have f4_ := f1_.symm; have f5_ := f3_.symm; clear f1_ f2_ f3_; subst f4_; subst f5_))
   refine hK.out _ _ ⟨(blk_cell BK292.out 0).trans rfl, (blk_cell BK292.out 1).trans rfl, (blk_cell BK292.out 2).trans rfl, (blk_cell BK292.out 3).trans rfl, (blk_cell BK292.out 4).trans rfl, (blk_cell BK292.out 5).trans rfl, (blk_cell BK292.out 6).trans rfl, (blk_cell BK292.out 7).trans rfl, (blk_cell BK282.out 0).trans rfl, (blk_cell BK282.out 1).trans rfl, (blk_cell BK282.out 2).trans rfl, (blk_cell BK282.out 3).trans rfl, (blk_cell BK282.out 4).trans rfl, (blk_cell BK282.out 5).trans rfl, (blk_cell BK282.out 6).trans rfl, (blk_cell BK282.out 7).trans rfl, ((HB.out.cell (World.block_lt_of_cell? w _ hw293_0)).trans hw293_0), ((HB.out.cell (World.block_lt_of_cell? w _ hw293_1)).trans hw293_1), ((HB.out.cell (World.block_lt_of_cell? w _ hw293_2)).trans hw293_2), ((HB.out.cell (World.block_lt_of_cell? w _ hw293_3)).trans hw293_3), ((HB.out.cell (World.block_lt_of_cell? w _ hw293_4)).trans hw293_4), ((HB.out.cell (World.block_lt_of_cell? w _ hw293_5)).trans hw293_5), ((HB.out.cell (World.block_lt_of_cell? w _ hw293_6)).trans hw293_6), ((HB.out.cell (World.block_lt_of_cell? w _ hw293_7)).trans hw293_7)⟩ (fun hHeld => ?_)
   clear hK K
   refine norm_ (a' := ?_) ?_ ?_
   rotate_left
   ·show Act.put _ (some 32) _ = _
    simp only [Act.put, s0_, s1_, s2_, i64_w, i32_w]
    rfl
   refine one_ (i := 8) (N := some 33) #[Y, Y, Y, Y, Y, Y, Y, Y, Y, Z, Z, Z] rfl rfl (one_of HT_.out (by kernel_rfl)) (by decide) (fun K hK => ?_)
   refine value_ (w1 := ?_) (v := ?_) (by rfl) rfl ?_ ?_
   rotate_left 2
   ·go_simp
    constructor
    ·rfl
    ·rfl
   refine hK.out _ _ ⟨(blk_cell (blk_alloc BK292.out _) 0).trans rfl, (blk_cell (blk_alloc BK292.out _) 1).trans rfl, (blk_cell (blk_alloc BK292.out _) 2).trans rfl, (blk_cell (blk_alloc BK292.out _) 3).trans rfl, (blk_cell (blk_alloc BK292.out _) 4).trans rfl, (blk_cell (blk_alloc BK292.out _) 5).trans rfl, (blk_cell (blk_alloc BK292.out _) 6).trans rfl, (blk_cell (blk_alloc BK292.out _) 7).trans rfl, (blk_cell (blk_alloc BK282.out _) 0).trans rfl, (blk_cell (blk_alloc BK282.out _) 1).trans rfl, (blk_cell (blk_alloc BK282.out _) 2).trans rfl, (blk_cell (blk_alloc BK282.out _) 3).trans rfl, (blk_cell (blk_alloc BK282.out _) 4).trans rfl, (blk_cell (blk_alloc BK282.out _) 5).trans rfl, (blk_cell (blk_alloc BK282.out _) 6).trans rfl, (blk_cell (blk_alloc BK282.out _) 7).trans rfl, (World.cell?_alloc_lt _ _ _ (World.block_lt_of_cell? _ _ (((HB.out.cell (World.block_lt_of_cell? w _ hw293_0)).trans hw293_0)))).trans (((HB.out.cell (World.block_lt_of_cell? w _ hw293_0)).trans hw293_0)), (World.cell?_alloc_lt _ _ _ (World.block_lt_of_cell? _ _ (((HB.out.cell (World.block_lt_of_cell? w _ hw293_1)).trans hw293_1)))).trans (((HB.out.cell (World.block_lt_of_cell? w _ hw293_1)).trans hw293_1)), (World.cell?_alloc_lt _ _ _ (World.block_lt_of_cell? _ _ (((HB.out.cell (World.block_lt_of_cell? w _ hw293_2)).trans hw293_2)))).trans (((HB.out.cell (World.block_lt_of_cell? w _ hw293_2)).trans hw293_2)), (World.cell?_alloc_lt _ _ _ (World.block_lt_of_cell? _ _ (((HB.out.cell (World.block_lt_of_cell? w _ hw293_3)).trans hw293_3)))).trans (((HB.out.cell (World.block_lt_of_cell? w _ hw293_3)).trans hw293_3)), (World.cell?_alloc_lt _ _ _ (World.block_lt_of_cell? _ _ (((HB.out.cell (World.block_lt_of_cell? w _ hw293_4)).trans hw293_4)))).trans (((HB.out.cell (World.block_lt_of_cell? w _ hw293_4)).trans hw293_4)), (World.cell?_alloc_lt _ _ _ (World.block_lt_of_cell? _ _ (((HB.out.cell (World.block_lt_of_cell? w _ hw293_5)).trans hw293_5)))).trans (((HB.out.cell (World.block_lt_of_cell? w _ hw293_5)).trans hw293_5)), (World.cell?_alloc_lt _ _ _ (World.block_lt_of_cell? _ _ (((HB.out.cell (World.block_lt_of_cell? w _ hw293_6)).trans hw293_6)))).trans (((HB.out.cell (World.block_lt_of_cell? w _ hw293_6)).trans hw293_6)), (World.cell?_alloc_lt _ _ _ (World.block_lt_of_cell? _ _ (((HB.out.cell (World.block_lt_of_cell? w _ hw293_7)).trans hw293_7)))).trans (((HB.out.cell (World.block_lt_of_cell? w _ hw293_7)).trans hw293_7))⟩ (fun hHeld => ?_)
   clear hK K
   refine norm_ (a' := ?_) ?_ ?_
   rotate_left
   ·show Act.put _ (some 33) _ = _
    simp only [Act.put, s0_, s1_, s2_, i64_w, i32_w]
    rfl
   refine one_ (i := 9) (N := some 34) #[Y, Y, Y, Y, Y, Y, Y, Y, Y, Y, Z, Z] rfl rfl (one_of HT_.out (by kernel_rfl)) (by decide) (fun K hK => ?_)
   refine Kd.R_append_step k50 (w0 := w) w.heap.size (by rfl) (.tmp 26) (.tmp 33) 44 50 (.agg #[(.int .i64 0), (.bool false), (.bool false), (.slice none 0 0), (.int .i64 0), (.string ⟨#[]⟩), (.slice none 0 0), (.slice none 0 0)]) 120 rfl Try.underlying44 info50 rfl (by decide) (by omega) u293007 x293007_1 (⟨t294, t295, (⟨t296, t297, t300⟩ : S48), t301, t302, t305⟩ : S50) [.int .i64 t294, .bool t295, .bool t296, .slice Ao33 t297.length co33, .int .i64 t300, .string t301, .slice Ao34 t302.length co34, .slice Ao35 t305.length co35] (fun k_ => some k_ ≠ (.slice Ao14 t285.length co14 : Value).ownBlock ∧ some k_ ≠ (.slice Ao13 t289.length co13 : Value).ownBlock ∧ k_ ≠ gb282 ∧ k_ ≠ gb283 ∧ k_ ≠ gb292) (fun k_ => ((fun k_ => some k_ ≠ (.slice Ao14 t285.length co14 : Value).ownBlock ∧ some k_ ≠ (.slice Ao13 t289.length co13 : Value).ownBlock ∧ k_ ≠ gb282 ∧ k_ ≠ gb283 ∧ k_ ≠ gb292)) k_ ∧ some k_ ≠ (u293007 : Value).ownBlock) rfl rfl ?aP (fun _ hk => hk) ?aF ?aO ?aB ?aS ?aL ?_
   (case aP => exact k50_mkM _ _ _ (⟨t294, t295, (⟨t296, t297, t300⟩ : S48), t301, t302, t305⟩ : S50) (Kd.R_mono (Kd.R_types (Kd.R_types (Kd.R_types (Kd.R_apart' (Kd.R_apart' (HO299.out) (Kd.R_typed HO_293006.out) (by decide)) (Kd.R_typed HO_293007.out) (by decide)) BK282.out (by decide)) BK283.out (by decide)) BK292.out (by decide)) (fun k_ hk => ⟨⟨hk.1.1.1.1.1.2, ⟨hk.1.1.1.1.2, ⟨hk.1.1.2, ⟨hk.1.2, hk.2⟩⟩⟩⟩, hk.1.1.1.2⟩)) (Kd.R_mono (Kd.R_types (Kd.R_types (Kd.R_types (Kd.R_apart' (Kd.R_apart' (HO304.out) (Kd.R_typed HO_293003.out) (by decide)) (Kd.R_typed HO_293007.out) (by decide)) BK282.out (by decide)) BK283.out (by decide)) BK292.out (by decide)) (fun k_ hk => ⟨⟨hk.1.1.1.1.2, ⟨hk.1.1.1.1.1.2, ⟨hk.1.1.2, ⟨hk.1.2, hk.2⟩⟩⟩⟩, hk.1.1.1.2⟩)) (Kd.R_mono (HO307.out) (fun k_ hk => ⟨⟨hk.1.1.1.1.1.2, ⟨hk.1.1.1.1.2, ⟨hk.1.1.2, ⟨hk.1.2, hk.2⟩⟩⟩⟩, hk.1.1.1.2⟩)))
   (case aB => exact (by repeat (first | (with_reducible first | exact HB.out | apply below_alloc | apply pw_below_drewN | apply below_drew1 | refine below_set ?_ GE282.out | refine below_set ?_ GE283.out | refine below_set ?_ GE292.out) | exact HB.out)))
   (case aF => exact (fun k_ hk => ⟨Kd.fresh' (Kd.R_lt (by (with_reducible repeat (first | apply Kd.R_alloc | apply Kd.R_drewN | apply Kd.R_drew)); exact HO_293003.out)) k_ hk, Kd.fresh' (Kd.R_lt (by (with_reducible repeat (first | apply Kd.R_alloc | apply Kd.R_drewN | apply Kd.R_drew)); exact HO_293006.out)) k_ hk, Kd.freshB (g := gb282) (o := .cells #[.int .i64 a0_0, .bool a0_1, .bool a0_2, .slice A0_3 l0_3.length c0_3, .int .i64 a0_4, .string a0_5, .slice A0_6 l0_6.length c0_6, .slice (some ad293) l0_7.length c0_7] 50 (0, 0)) (by (with_reducible repeat (first | refine blk_drewN ?_ _ | refine blk_drew ?_ | refine blk_alloc ?_ _)); exact BK282.out) k_ hk, Kd.freshB (g := gb283) (o := .cells #[.int .i64 0, .bool false, .bool false, .slice none 0 0, .int .i64 0, .string (⟨#[]⟩ : ByteArray), .slice none 0 0, .slice none 0 0] 50 (0, 0)) (by (with_reducible repeat (first | refine blk_drewN ?_ _ | refine blk_drew ?_ | refine blk_alloc ?_ _)); exact BK283.out) k_ hk, Kd.freshB (g := gb292) (o := .cells #[.int .i64 a0_0, .bool a0_1, .bool t284, .slice Ao14 t285.length co14, .int .i64 t288, .string a0_5, .slice Ao13 t289.length co13, u293007] 50 (0, 0)) (by (with_reducible repeat (first | refine blk_drewN ?_ _ | refine blk_drew ?_ | refine blk_alloc ?_ _)); exact BK292.out) k_ hk⟩))
   (case aO => exact (by (with_reducible repeat (first | apply Kd.R_alloc | apply Kd.R_drewN | apply Kd.R_drew)); exact Kd.R_mono HO_293007.out (fun _ hk => ⟨hk.1.1.1.1, ⟨hk.1.1.1.2.1, ⟨hk.1.1.1.2.2.1, ⟨hk.1.1.1.2.2.2.1, hk.1.1.1.2.2.2.2⟩⟩⟩⟩)))
   (case aS => exact (below_size (by repeat (first | (with_reducible first | exact HB.out | apply below_alloc | apply pw_below_drewN | apply below_drew1 | refine below_set ?_ GE282.out | refine below_set ?_ GE283.out | refine below_set ?_ GE292.out) | exact HB.out))))
   (case aL => have := LMc26.out; omega)
   intro v309 w32 ho hb hg hat
   rw [← Ny308.out] at ho
   have n0_ := Aside0.mk (Kd.R_over' (by (with_reducible repeat (first | apply Kd.R_alloc | apply Kd.R_drewN | apply Kd.R_drew)); exact HO_293003.out) (Kd.R_typed (by (with_reducible repeat (first | apply Kd.R_alloc | apply Kd.R_drewN | apply Kd.R_drew)); exact HO_293007.out)) (by decide) hg)
   have n1_ := Aside0.mk (Kd.R_over' (by (with_reducible repeat (first | apply Kd.R_alloc | apply Kd.R_drewN | apply Kd.R_drew)); exact HO_293006.out) (Kd.R_typed (by (with_reducible repeat (first | apply Kd.R_alloc | apply Kd.R_drewN | apply Kd.R_drew)); exact HO_293007.out)) (by decide) hg)
   have n2_ := Aside0.mk (blk_grown (g := gb282) (o := .cells #[.int .i64 a0_0, .bool a0_1, .bool a0_2, .slice A0_3 l0_3.length c0_3, .int .i64 a0_4, .string a0_5, .slice A0_6 l0_6.length c0_6, .slice (some ad293) l0_7.length c0_7] 50 (0, 0)) (by (with_reducible repeat (first | refine blk_drewN ?_ _ | refine blk_drew ?_ | refine blk_alloc ?_ _)); exact BK282.out) hg (Kd.R_away HO_293007.out (fun _ hk => hk.1.1.1.2.2.1)))
   have n3_ := Aside0.mk (blk_grown (g := gb283) (o := .cells #[.int .i64 0, .bool false, .bool false, .slice none 0 0, .int .i64 0, .string (⟨#[]⟩ : ByteArray), .slice none 0 0, .slice none 0 0] 50 (0, 0)) (by (with_reducible repeat (first | refine blk_drewN ?_ _ | refine blk_drew ?_ | refine blk_alloc ?_ _)); exact BK283.out) hg (Kd.R_away HO_293007.out (fun _ hk => hk.1.1.1.2.2.2.1)))
   have n4_ := Aside0.mk (blk_grown (g := gb292) (o := .cells #[.int .i64 a0_0, .bool a0_1, .bool t284, .slice Ao14 t285.length co14, .int .i64 t288, .string a0_5, .slice Ao13 t289.length co13, u293007] 50 (0, 0)) (by (with_reducible repeat (first | refine blk_drewN ?_ _ | refine blk_drew ?_ | refine blk_alloc ?_ _)); exact BK292.out) hg (Kd.R_away HO_293007.out (fun _ hk => hk.1.1.1.2.2.2.2)))
   have n5_ := Aside0.mk (hb)
   have n6_ := Aside0.mk (ho)
   clear HO_293003
   clear HO_293006
   clear BK282
   clear BK283
   clear BK292
   clear HB
   clear HO_293007
   clear HO299
   clear HO304
   clear HO307
   have HO_293003 := n0_
   have HO_293006 := n1_
   have BK282 := n2_
   have BK283 := n3_
   have BK292 := n4_
   have HB := n5_
   have HO310 := n6_
   clear n0_ n1_ n2_ n3_ n4_ n5_ n6_
   clear ho hb hg hat
   obtain ⟨Ao36, co36, eo36⟩ := Kd.R_slice HO310.out
   (first | subst eo36 | (injection eo36 with f1_ f2_ f3_; have f4_ := f1_.symm; have f5_ := f3_.symm; clear f1_ f2_ f3_; subst f4_; subst f5_))
   refine hK.out _ _ ⟨(blk_cell BK292.out 0).trans rfl, (blk_cell BK292.out 1).trans rfl, (blk_cell BK292.out 2).trans rfl, (blk_cell BK292.out 3).trans rfl, (blk_cell BK292.out 4).trans rfl, (blk_cell BK292.out 5).trans rfl, (blk_cell BK292.out 6).trans rfl, (blk_cell BK292.out 7).trans rfl, (blk_cell BK282.out 0).trans rfl, (blk_cell BK282.out 1).trans rfl, (blk_cell BK282.out 2).trans rfl, (blk_cell BK282.out 3).trans rfl, (blk_cell BK282.out 4).trans rfl, (blk_cell BK282.out 5).trans rfl, (blk_cell BK282.out 6).trans rfl, (blk_cell BK282.out 7).trans rfl, ((HB.out.cell (World.block_lt_of_cell? w _ hw293_0)).trans hw293_0), ((HB.out.cell (World.block_lt_of_cell? w _ hw293_1)).trans hw293_1), ((HB.out.cell (World.block_lt_of_cell? w _ hw293_2)).trans hw293_2), ((HB.out.cell (World.block_lt_of_cell? w _ hw293_3)).trans hw293_3), ((HB.out.cell (World.block_lt_of_cell? w _ hw293_4)).trans hw293_4), ((HB.out.cell (World.block_lt_of_cell? w _ hw293_5)).trans hw293_5), ((HB.out.cell (World.block_lt_of_cell? w _ hw293_6)).trans hw293_6), ((HB.out.cell (World.block_lt_of_cell? w _ hw293_7)).trans hw293_7)⟩ (fun hHeld => ?_)
   clear hK K
   refine norm_ (a' := ?_) ?_ ?_
   rotate_left
   ·show Act.put _ (some 34) _ = _
    simp only [Act.put, s0_, s1_, s2_, i64_w, i32_w]
    rfl
   refine pure_ (i := 10) (N := some 35) (v := ?_) (a' := ?_) #[Y, Y, Y, Y, Y, Y, Y, Y, Y, Y, Y, Z] rfl rfl (any_of HT_.out (by kernel_rfl)) (fun _ _ _ h => h) (Or.inl ⟨by rfl, ?_⟩) ?_ ?_
   rotate_left
   ·intro w'
    go_simp
    with_reducible rfl
   rotate_left
   ·simp only [Act.put, s0_, s1_, s2_, i64_w, i32_w]
    rfl
   refine last_ (i := 11) (N := none) #[Y, Y, Y, Y, Y, Y, Y, Y, Y, Y, Y, Y] rfl rfl (one_of HT_.out (by kernel_rfl)) (by decide) (fun K hK => ?_)
   have hs37 : w32.cell? ⟨gb292, 7, none⟩ = some (u293007) := (blk_cell BK292.out 7).trans rfl
   have hfs37 := blk_frozen BK292.out 7
   have hns37_0 := NB282_292.out
   have hns37_1 := NB283_292.out
   have hms37_0 := NB292_282.out
   have hms37_1 := NB292_283.out
   refine skip_ (w1 := ?_) (by rfl) rfl ?_ ?_
   rotate_left
   ·go_simp
    rfl
   refine hK.out _ _ ?_
   clear hK K
   refine done_ (done_of HT_.out (by kernel_rfl)) ?_
   try go_wp2
   go_roundg k1
   case measure => have := HK1.out; omega
   case rel => exact ⟨(wrap64 (x4_1 + 1)), (y308), (.slice Ao36 y308.length co36), (by first | rfl | (simp; done) | (simp [*]; done)), H', ⟨by have := HK1.out; omega⟩, ⟨by (with_reducible repeat (first | apply Kd.R_alloc | apply Kd.R_drewN | apply Kd.R_drew)); exact Kd.R_mono (Kd.R_far (p := ⟨gb292, 7, none⟩) (Kd.R_types HO_293003.out BK292.out (by decide)) (fun _ hk => hk.2) (.slice Ao36 y308.length co36)) (fun _ hk => trivial)⟩, ⟨by (with_reducible repeat (first | apply Kd.R_alloc | apply Kd.R_drewN | apply Kd.R_drew)); exact Kd.R_mono (Kd.R_far (p := ⟨gb292, 7, none⟩) (Kd.R_types HO_293006.out BK292.out (by decide)) (fun _ hk => hk.2) (.slice Ao36 y308.length co36)) (fun _ hk => trivial)⟩, ⟨by (with_reducible repeat (first | apply Kd.R_alloc | apply Kd.R_drewN | apply Kd.R_drew)); exact Kd.R_mono (Kd.R_far (p := ⟨gb292, 7, none⟩) (Kd.R_mono HO310.out (fun k_ hk => (⟨hk, hk.2.2.2.2⟩ : _ ∧ k_ ≠ gb292))) (fun _ hk => hk.2) (.slice Ao36 y308.length co36)) (fun _ hk => ⟨hk.1.1, ⟨hk.1.2.1, ⟨hk.1.2.2.1, ⟨hk.1.2.2.2.1, hk.1.2.2.2.2⟩⟩⟩⟩)⟩, ⟨by (with_reducible repeat (first | refine blk_drewN ?_ _ | refine blk_drew ?_ | refine blk_alloc ?_ _)); refine blk_far ?_ NB282_292.out _; (with_reducible repeat (first | refine blk_drewN ?_ _ | refine blk_drew ?_ | refine blk_alloc ?_ _)); exact BK282.out⟩, ⟨by (with_reducible repeat (first | refine blk_drewN ?_ _ | refine blk_drew ?_ | refine blk_alloc ?_ _)); refine blk_far ?_ NB283_292.out _; (with_reducible repeat (first | refine blk_drewN ?_ _ | refine blk_drew ?_ | refine blk_alloc ?_ _)); exact BK283.out⟩, ⟨by (with_reducible repeat (first | refine blk_drewN ?_ _ | refine blk_drew ?_ | refine blk_alloc ?_ _)); refine blk_put (cs := #[.int .i64 a0_0, .bool a0_1, .bool t284, .slice Ao14 t285.length co14, .int .i64 t288, .string a0_5, .slice Ao13 t289.length co13, u293007]) ?_ 7 _ rfl; (with_reducible repeat (first | refine blk_drewN ?_ _ | refine blk_drew ?_ | refine blk_alloc ?_ _)); exact BK292.out⟩, ⟨by repeat (first | (with_reducible first | exact HB.out | apply below_alloc | apply pw_below_drewN | apply below_drew1 | refine below_set ?_ GE282.out | refine below_set ?_ GE283.out | refine below_set ?_ GE292.out) | exact HB.out)⟩⟩
end Go.Proofs.Ytpamgedmgjfjjaa.M
