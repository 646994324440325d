/-
Lemmas for OrderAll, for every input they speak of: M17.
-/
import Derived.Test.YtpamgedmgjfjjaaKOrderAll03
import Derived.Test.YtpamgedmgjfjjaaKOrderAll17
namespace Go.Proofs.Ytpamgedmgjfjjaa.M
open Go.RowKit Go.Proofs.YtpamgedmgjfjjaaW.PrintWords Go.Proofs.YtpamgedmgjfjjaaW.PrintLast Go.Proofs.YtpamgedmgjfjjaaW.PrintMore
attribute [local go_sem] max2_int min2_int max_two min_two max_three min_three max_four min_four
set_option linter.unusedVariables false
set_option linter.unusedSimpArgs false
mutual
def erratumlaw00_SameTree.j0 : Nat → Bool → Int → Bool → Bool → List Int → Int → ByteArray → List ByteArray → List (S50) → Int → Bool → Bool → List Int → Int → ByteArray → List ByteArray → List (S50) → Option (Bool)
 | 0, _, _, _, _, _, _, _, _, _, _, _, _, _, _, _, _, _ => none
 | k + 1, x49, x403000, x403001, x403002, x403003, x403004, x403005, x403006, x403007, x404000, x404001, x404002, x404003, x404004, x404005, x404006, x404007 => if x49 = true then (some false) else (erratumlaw00_SameTree.l0 k 0 x403000 x403001 x403002 x403003 x403004 x403005 x403006 x403007 x404000 x404001 x404002 x404003 x404004 x404005 x404006 x404007)
def erratumlaw00_SameTree.l0 : Nat → Int → Int → Bool → Bool → List Int → Int → ByteArray → List ByteArray → List (S50) → Int → Bool → Bool → List Int → Int → ByteArray → List ByteArray → List (S50) → Option (Bool)
 | 0, _, _, _, _, _, _, _, _, _, _, _, _, _, _, _, _, _ => none
 | k + 1, x5, x403000, x403001, x403002, x403003, x403004, x403005, x403006, x403007, x404000, x404001, x404002, x404003, x404004, x404005, x404006, x404007 => if x5 < (x403007.length : Int) then (if 0 ≤ x5 then (if x5 < (x404007.length : Int) then ((erratumlaw00_SameTree.f k ((rd_T50 x403007 x5).f0) ((rd_T50 x403007 x5).f1) ((rd_T50 x403007 x5).f2.f0) ((rd_T50 x403007 x5).f2.f1) ((rd_T50 x403007 x5).f2.f2) ((rd_T50 x403007 x5).f3) ((rd_T50 x403007 x5).f4) ((rd_T50 x403007 x5).f5) ((rd_T50 x404007 x5).f0) ((rd_T50 x404007 x5).f1) ((rd_T50 x404007 x5).f2.f0) ((rd_T50 x404007 x5).f2.f1) ((rd_T50 x404007 x5).f2.f2) ((rd_T50 x404007 x5).f3) ((rd_T50 x404007 x5).f4) ((rd_T50 x404007 x5).f5)).bind fun t408 => (if t408 = true then (erratumlaw00_SameTree.l0 k (wrap64 (x5 + 1)) x403000 x403001 x403002 x403003 x403004 x403005 x403006 x403007 x404000 x404001 x404002 x404003 x404004 x404005 x404006 x404007) else (some false))) else (none)) else (none)) else (some true)
def erratumlaw00_SameTree.f : Nat → Int → Bool → Bool → List Int → Int → ByteArray → List ByteArray → List (S50) → Int → Bool → Bool → List Int → Int → ByteArray → List ByteArray → List (S50) → Option (Bool)
 | 0, _, _, _, _, _, _, _, _, _, _, _, _, _, _, _, _ => none
 | k + 1, a0_0, a0_1, a0_2, l0_3, a0_4, a0_5, l0_6, l0_7, a1_0, a1_1, a1_2, l1_3, a1_4, a1_5, l1_6, l1_7 => if a0_0 = a1_0 then (if (a0_1 != a1_1) = true then (erratumlaw00_SameTree.j0 k true a0_0 a0_1 a0_2 l0_3 a0_4 a0_5 l0_6 l0_7 a1_0 a1_1 a1_2 l1_3 a1_4 a1_5 l1_6 l1_7) else ((erratumlaw00_SameNum.f k a0_2 l0_3 a0_4 a1_2 l1_3 a1_4).bind fun t404 => (if t404 = true then (if a0_5.toList = a1_5.toList then ((erratumlaw00_SameStrings.f k l0_6 l1_6).bind fun t405 => (if t405 = true then (erratumlaw00_SameTree.j0 k ((l0_7.length : Int) != (l1_7.length : Int)) a0_0 a0_1 a0_2 l0_3 a0_4 a0_5 l0_6 l0_7 a1_0 a1_1 a1_2 l1_3 a1_4 a1_5 l1_6 l1_7) else (erratumlaw00_SameTree.j0 k true a0_0 a0_1 a0_2 l0_3 a0_4 a0_5 l0_6 l0_7 a1_0 a1_1 a1_2 l1_3 a1_4 a1_5 l1_6 l1_7))) else (erratumlaw00_SameTree.j0 k true a0_0 a0_1 a0_2 l0_3 a0_4 a0_5 l0_6 l0_7 a1_0 a1_1 a1_2 l1_3 a1_4 a1_5 l1_6 l1_7)) else (erratumlaw00_SameTree.j0 k true a0_0 a0_1 a0_2 l0_3 a0_4 a0_5 l0_6 l0_7 a1_0 a1_1 a1_2 l1_3 a1_4 a1_5 l1_6 l1_7)))) else (erratumlaw00_SameTree.j0 k true a0_0 a0_1 a0_2 l0_3 a0_4 a0_5 l0_6 l0_7 a1_0 a1_1 a1_2 l1_3 a1_4 a1_5 l1_6 l1_7)
end
theorem erratumlaw00_SameTree.mono_l : ∀ k, (∀ y0 y1 y2 y3 y4 y5 y6 y7 y8 y9 y10 y11 y12 y13 y14 y15, LeO (erratumlaw00_SameTree.f k y0 y1 y2 y3 y4 y5 y6 y7 y8 y9 y10 y11 y12 y13 y14 y15) (erratumlaw00_SameTree.f (k + 1) y0 y1 y2 y3 y4 y5 y6 y7 y8 y9 y10 y11 y12 y13 y14 y15)) ∧ (∀ y0 y1 y2 y3 y4 y5 y6 y7 y8 y9 y10 y11 y12 y13 y14 y15 y16, LeO (erratumlaw00_SameTree.j0 k y0 y1 y2 y3 y4 y5 y6 y7 y8 y9 y10 y11 y12 y13 y14 y15 y16) (erratumlaw00_SameTree.j0 (k + 1) y0 y1 y2 y3 y4 y5 y6 y7 y8 y9 y10 y11 y12 y13 y14 y15 y16)) ∧ (∀ y0 y1 y2 y3 y4 y5 y6 y7 y8 y9 y10 y11 y12 y13 y14 y15 y16, LeO (erratumlaw00_SameTree.l0 k y0 y1 y2 y3 y4 y5 y6 y7 y8 y9 y10 y11 y12 y13 y14 y15 y16) (erratumlaw00_SameTree.l0 (k + 1) y0 y1 y2 y3 y4 y5 y6 y7 y8 y9 y10 y11 y12 y13 y14 y15 y16))
 | 0 => ⟨fun _ _ _ _ _ _ _ _ _ _ _ _ _ _ _ _ r h => by simp [erratumlaw00_SameTree.f] at h, fun _ _ _ _ _ _ _ _ _ _ _ _ _ _ _ _ _ r h => by simp [erratumlaw00_SameTree.j0] at h, fun _ _ _ _ _ _ _ _ _ _ _ _ _ _ _ _ _ r h => by simp [erratumlaw00_SameTree.l0] at h⟩
 | k + 1 => by
  obtain ⟨ih0, ih1, ih2⟩ := erratumlaw00_SameTree.mono_l k
  refine ⟨?_, ?_, ?_⟩
  ·intro y0 y1 y2 y3 y4 y5 y6 y7 y8 y9 y10 y11 y12 y13 y14 y15
   unfold erratumlaw00_SameTree.f
   repeat' first
   | (with_reducible exact ih0 _ _ _ _ _ _ _ _ _ _ _ _ _ _ _ _)
   | (with_reducible exact ih1 _ _ _ _ _ _ _ _ _ _ _ _ _ _ _ _ _)
   | (with_reducible exact ih2 _ _ _ _ _ _ _ _ _ _ _ _ _ _ _ _ _)
   | (with_reducible exact erratumlaw00_SameNum.mono _ _ _ _ _ _ _)
   | (with_reducible exact erratumlaw00_SameStrings.mono _ _ _)
   | (with_reducible exact LeO.refl _)
   | (with_reducible exact LeO.none _)
   | (with_reducible refine LeO.ite ?_ ?_)
   | (with_reducible refine LeO.bind ?_ (fun _ => ?_))
   | exact ih0 _ _ _ _ _ _ _ _ _ _ _ _ _ _ _ _
   | exact ih1 _ _ _ _ _ _ _ _ _ _ _ _ _ _ _ _ _
   | exact ih2 _ _ _ _ _ _ _ _ _ _ _ _ _ _ _ _ _
   | exact erratumlaw00_SameNum.mono _ _ _ _ _ _ _
   | exact erratumlaw00_SameStrings.mono _ _ _
   | exact LeO.none _
   | refine LeO.ite ?_ ?_
   | refine LeO.bind ?_ (fun _ => ?_)
  ·intro y0 y1 y2 y3 y4 y5 y6 y7 y8 y9 y10 y11 y12 y13 y14 y15 y16
   unfold erratumlaw00_SameTree.j0
   repeat' first
   | (with_reducible exact ih0 _ _ _ _ _ _ _ _ _ _ _ _ _ _ _ _)
   | (with_reducible exact ih1 _ _ _ _ _ _ _ _ _ _ _ _ _ _ _ _ _)
   | (with_reducible exact ih2 _ _ _ _ _ _ _ _ _ _ _ _ _ _ _ _ _)
   | (with_reducible exact erratumlaw00_SameNum.mono _ _ _ _ _ _ _)
   | (with_reducible exact erratumlaw00_SameStrings.mono _ _ _)
   | (with_reducible exact LeO.refl _)
   | (with_reducible exact LeO.none _)
   | (with_reducible refine LeO.ite ?_ ?_)
   | (with_reducible refine LeO.bind ?_ (fun _ => ?_))
   | exact ih0 _ _ _ _ _ _ _ _ _ _ _ _ _ _ _ _
   | exact ih1 _ _ _ _ _ _ _ _ _ _ _ _ _ _ _ _ _
   | exact ih2 _ _ _ _ _ _ _ _ _ _ _ _ _ _ _ _ _
   | exact erratumlaw00_SameNum.mono _ _ _ _ _ _ _
   | exact erratumlaw00_SameStrings.mono _ _ _
   | exact LeO.none _
   | refine LeO.ite ?_ ?_
   | refine LeO.bind ?_ (fun _ => ?_)
  ·intro y0 y1 y2 y3 y4 y5 y6 y7 y8 y9 y10 y11 y12 y13 y14 y15 y16
   unfold erratumlaw00_SameTree.l0
   repeat' first
   | (with_reducible exact ih0 _ _ _ _ _ _ _ _ _ _ _ _ _ _ _ _)
   | (with_reducible exact ih1 _ _ _ _ _ _ _ _ _ _ _ _ _ _ _ _ _)
   | (with_reducible exact ih2 _ _ _ _ _ _ _ _ _ _ _ _ _ _ _ _ _)
   | (with_reducible exact erratumlaw00_SameNum.mono _ _ _ _ _ _ _)
   | (with_reducible exact erratumlaw00_SameStrings.mono _ _ _)
   | (with_reducible exact LeO.refl _)
   | (with_reducible exact LeO.none _)
   | (with_reducible refine LeO.ite ?_ ?_)
   | (with_reducible refine LeO.bind ?_ (fun _ => ?_))
   | exact ih0 _ _ _ _ _ _ _ _ _ _ _ _ _ _ _ _
   | exact ih1 _ _ _ _ _ _ _ _ _ _ _ _ _ _ _ _ _
   | exact ih2 _ _ _ _ _ _ _ _ _ _ _ _ _ _ _ _ _
   | exact erratumlaw00_SameNum.mono _ _ _ _ _ _ _
   | exact erratumlaw00_SameStrings.mono _ _ _
   | exact LeO.none _
   | refine LeO.ite ?_ ?_
   | refine LeO.bind ?_ (fun _ => ?_)
theorem erratumlaw00_SameTree.mono : ∀ a0 a1 a2 a3 a4 a5 a6 a7 a8 a9 a10 a11 a12 a13 a14 a15 k, LeO (erratumlaw00_SameTree.f k a0 a1 a2 a3 a4 a5 a6 a7 a8 a9 a10 a11 a12 a13 a14 a15) (erratumlaw00_SameTree.f (k + 1) a0 a1 a2 a3 a4 a5 a6 a7 a8 a9 a10 a11 a12 a13 a14 a15) := by
 intro a0 a1 a2 a3 a4 a5 a6 a7 a8 a9 a10 a11 a12 a13 a14 a15 k
 obtain ⟨ih0, ih1, ih2⟩ := erratumlaw00_SameTree.mono_l k
 exact ih0 a0 a1 a2 a3 a4 a5 a6 a7 a8 a9 a10 a11 a12 a13 a14 a15
def erratumlaw00_SameTree.T6 : Bool × List (List Nat × List Nat) := (true, [([], []), ([0], [0]), ([], []), ([1, 2], [1, 2]), ([3], [3]), ([], []), ([5], [5]), ([], []), ([6, 7], [6, 7]), ([8], [8]), ([4, 9], [4, 9]), ([10], [10])])
def erratumlaw00_SameTree.B6 : List Nat := [0, 1, 0, 7, 15, 0, 32, 0, 224, 480, 1023, 2047]
theorem erratumlaw00_SameTree.tab6 : rtab .any (opsOf Try.f32 6) = erratumlaw00_SameTree.T6 := by kernel_rfl
theorem erratumlaw00_SameTree.bits6 : waitsOk erratumlaw00_SameTree.T6.2 erratumlaw00_SameTree.B6 = true := by kernel_rfl
set_option maxHeartbeats 8000000 in
set_option maxRecDepth 100000 in
theorem erratumlaw00_SameTree.calls (k : Nat) : ∀ (a0_0 : Int) (a0_1 : Bool) (a0_2 : Bool) (A0_3 : Option Addr) (c0_3 : Nat) (l0_3 : List Int) (a0_4 : Int) (a0_5 : ByteArray) (A0_6 : Option Addr) (c0_6 : Nat) (l0_6 : List ByteArray) (A0_7 : Option Addr) (c0_7 : Nat) (l0_7 : List (S50)) (a1_0 : Int) (a1_1 : Bool) (a1_2 : Bool) (A1_3 : Option Addr) (c1_3 : Nat) (l1_3 : List Int) (a1_4 : Int) (a1_5 : ByteArray) (A1_6 : Option Addr) (c1_6 : Nat) (l1_6 : List ByteArray) (A1_7 : Option Addr) (c1_7 : Nat) (l1_7 : List (S50)) (r : Bool) (w : World) (hr0_3 : Kd.C (Kd.int .u32) w A0_3 l0_3.length l0_3) (hc0_3 : l0_3.length ≤ c0_3) (hr0_6 : Kd.C Kd.string w A0_6 l0_6.length l0_6) (hc0_6 : l0_6.length ≤ c0_6) (hr0_7 : Kd.C k50 w A0_7 l0_7.length l0_7) (hc0_7 : l0_7.length ≤ c0_7) (hr1_3 : Kd.C (Kd.int .u32) w A1_3 l1_3.length l1_3) (hc1_3 : l1_3.length ≤ c1_3) (hr1_6 : Kd.C Kd.string w A1_6 l1_6.length l1_6) (hc1_6 : l1_6.length ≤ c1_6) (hr1_7 : Kd.C k50 w A1_7 l1_7.length l1_7) (hc1_7 : l1_7.length ≤ c1_7) (h : erratumlaw00_SameTree.f k a0_0 a0_1 a0_2 l0_3 a0_4 a0_5 l0_6 l0_7 a1_0 a1_1 a1_2 l1_3 a1_4 a1_5 l1_6 l1_7 = some r),
  Calls Try.prog 32 #[.agg #[.int .i64 a0_0, .bool a0_1, .bool a0_2, .slice A0_3 l0_3.length c0_3, .int .i64 a0_4, .string a0_5, .slice A0_6 l0_6.length c0_6, .slice A0_7 l0_7.length c0_7], .agg #[.int .i64 a1_0, .bool a1_1, .bool a1_2, .slice A1_3 l1_3.length c1_3, .int .i64 a1_4, .string a1_5, .slice A1_6 l1_6.length c1_6, .slice A1_7 l1_7.length c1_7]] w fun e w' => e = .returned (.bool r) ∧ Below w.heap.size w w' := by
 induction k using Nat.strongRecOn with
 | _ k ih =>
 intro a0_0 a0_1 a0_2 A0_3 c0_3 l0_3 a0_4 a0_5 A0_6 c0_6 l0_6 A0_7 c0_7 l0_7 a1_0 a1_1 a1_2 A1_3 c1_3 l1_3 a1_4 a1_5 A1_6 c1_6 l1_6 A1_7 c1_7 l1_7 r w hr0_3 hc0_3 hr0_6 hc0_6 hr0_7 hc0_7 hr1_3 hc1_3 hr1_6 hc1_6 hr1_7 hc1_7 h
 cases k with
 | zero => exact absurd h (by simp [erratumlaw00_SameTree.f])
 | succ k =>
 simp only [erratumlaw00_SameTree.f] at h
 have hu50 := Try.underlying50
 have hu48 := Try.underlying48
 have HR0_3 := Aside0.mk hr0_3
 have HC0_3 := Aside0.mk hc0_3
 clear hr0_3 hc0_3
 have HR0_6 := Aside0.mk hr0_6
 have HC0_6 := Aside0.mk hc0_6
 clear hr0_6 hc0_6
 have HR0_7 := Aside0.mk hr0_7
 have HC0_7 := Aside0.mk hc0_7
 clear hr0_7 hc0_7
 have HR1_3 := Aside0.mk hr1_3
 have HC1_3 := Aside0.mk hc1_3
 clear hr1_3 hc1_3
 have HR1_6 := Aside0.mk hr1_6
 have HC1_6 := Aside0.mk hc1_6
 clear hr1_6 hc1_6
 have HR1_7 := Aside0.mk hr1_7
 have HC1_7 := Aside0.mk hc1_7
 clear hr1_7 hc1_7
 have HB := Aside0.mk (Below.refl w.heap.size w)
 have H : (if a0_0 = a1_0 then (if (a0_1 != a1_1) = true then (erratumlaw00_SameTree.j0 k true a0_0 a0_1 a0_2 l0_3 a0_4 a0_5 l0_6 l0_7 a1_0 a1_1 a1_2 l1_3 a1_4 a1_5 l1_6 l1_7) else ((erratumlaw00_SameNum.f k a0_2 l0_3 a0_4 a1_2 l1_3 a1_4).bind fun t404 => (if t404 = true then (if a0_5.toList = a1_5.toList then ((erratumlaw00_SameStrings.f k l0_6 l1_6).bind fun t405 => (if t405 = true then (erratumlaw00_SameTree.j0 k ((l0_7.length : Int) != (l1_7.length : Int)) a0_0 a0_1 a0_2 l0_3 a0_4 a0_5 l0_6 l0_7 a1_0 a1_1 a1_2 l1_3 a1_4 a1_5 l1_6 l1_7) else (erratumlaw00_SameTree.j0 k true a0_0 a0_1 a0_2 l0_3 a0_4 a0_5 l0_6 l0_7 a1_0 a1_1 a1_2 l1_3 a1_4 a1_5 l1_6 l1_7))) else (erratumlaw00_SameTree.j0 k true a0_0 a0_1 a0_2 l0_3 a0_4 a0_5 l0_6 l0_7 a1_0 a1_1 a1_2 l1_3 a1_4 a1_5 l1_6 l1_7)) else (erratumlaw00_SameTree.j0 k true a0_0 a0_1 a0_2 l0_3 a0_4 a0_5 l0_6 l0_7 a1_0 a1_1 a1_2 l1_3 a1_4 a1_5 l1_6 l1_7)))) else (erratumlaw00_SameTree.j0 k true a0_0 a0_1 a0_2 l0_3 a0_4 a0_5 l0_6 l0_7 a1_0 a1_1 a1_2 l1_3 a1_4 a1_5 l1_6 l1_7)) = some r := h
 clear h
 have HC3 := Aside0.mk H
 clear H
 go_enter Try.func32, Try.ntmps32
 go_upto_region 1 with (first | ((with_reducible refine gate_dst (N := 2) rfl ?_); (try (refine gate_guard (by rfl) ?_; dsimp only)); refine box_event ?hg (N := 2) ?hd (cs := #[.int .i64 a0_0, .bool a0_1, .bool a0_2, .slice A0_3 l0_3.length c0_3, .int .i64 a0_4, .string a0_5, .slice A0_6 l0_6.length c0_6, .slice A0_7 l0_7.length c0_7]) (t := 50) ?hr ?_; (case hd => rfl); (case hg => rfl); (case hr => first | (go_simp; done) | (go_simp; rfl)); intro gb402 hg w4 hbox hb; have n0_ := Aside0.mk (below_step (by repeat (first | (with_reducible first | exact HB.out | apply below_alloc | apply pw_below_drewN | apply below_drew1) | exact HB.out)) hb); have n1_ := Aside0.mk (hbox); have n2_ := Aside0.mk ((by rw [hg]; exact (below_size (by repeat (first | (with_reducible first | exact HB.out | apply below_alloc | apply pw_below_drewN | apply below_drew1) | exact HB.out))) : w.heap.size ≤ gb402)); have n3_ := Aside0.mk ((by rw [hg]; exact (below_size (by repeat (first | (with_reducible first | exact HB.out | apply below_alloc | apply pw_below_drewN | apply below_drew1) | exact HB.out))) : w.heap.size ≤ gb402)); clear HB; have HB := n0_; have BK402 := n1_; have GW402 := n2_; have GE402 := n3_; clear n0_ n1_ n2_ n3_; clear hb hbox hg) | ((with_reducible refine gate_dst (N := 3) rfl ?_); (try (refine gate_guard (by rfl) ?_; dsimp only)); refine box_event ?hg (N := 3) ?hd (cs := #[.int .i64 a1_0, .bool a1_1, .bool a1_2, .slice A1_3 l1_3.length c1_3, .int .i64 a1_4, .string a1_5, .slice A1_6 l1_6.length c1_6, .slice A1_7 l1_7.length c1_7]) (t := 50) ?hr ?_; (case hd => rfl); (case hg => rfl); (case hr => first | (go_simp; done) | (go_simp; rfl)); intro gb403 hg w5 hbox hb; have n0_ := Aside0.mk (blk_below (g := gb402) (o := .cells #[.int .i64 a0_0, .bool a0_1, .bool a0_2, .slice A0_3 l0_3.length c0_3, .int .i64 a0_4, .string a0_5, .slice A0_6 l0_6.length c0_6, .slice A0_7 l0_7.length c0_7] 50 (0, 0)) (by (with_reducible repeat (first | refine blk_drewN ?_ _ | refine blk_drew ?_ | refine blk_alloc ?_ _)); exact BK402.out) hb); have n1_ := Aside0.mk (below_step (by repeat (first | (with_reducible first | exact HB.out | apply below_alloc | apply pw_below_drewN | apply below_drew1 | refine below_set ?_ GE402.out) | exact HB.out)) hb); have n2_ := Aside0.mk (hbox); have n3_ := Aside0.mk ((by rw [hg]; exact (below_size (by repeat (first | (with_reducible first | exact HB.out | apply below_alloc | apply pw_below_drewN | apply below_drew1 | refine below_set ?_ GE402.out) | exact HB.out))) : w.heap.size ≤ gb403)); have n4_ := Aside0.mk ((by rw [hg]; exact (below_size (by repeat (first | (with_reducible first | exact HB.out | apply below_alloc | apply pw_below_drewN | apply below_drew1 | refine below_set ?_ GE402.out) | exact HB.out))) : w.heap.size ≤ gb403)); have n5_ := Aside0.mk ((by rw [hg]; exact Nat.ne_of_lt (blk_lt (g := gb402) (o := .cells #[.int .i64 a0_0, .bool a0_1, .bool a0_2, .slice A0_3 l0_3.length c0_3, .int .i64 a0_4, .string a0_5, .slice A0_6 l0_6.length c0_6, .slice A0_7 l0_7.length c0_7] 50 (0, 0)) (by (with_reducible repeat (first | refine blk_drewN ?_ _ | refine blk_drew ?_ | refine blk_alloc ?_ _)); exact BK402.out)) : gb402 ≠ gb403)); have n6_ := Aside0.mk ((by rw [hg]; exact Nat.ne_of_gt (blk_lt (g := gb402) (o := .cells #[.int .i64 a0_0, .bool a0_1, .bool a0_2, .slice A0_3 l0_3.length c0_3, .int .i64 a0_4, .string a0_5, .slice A0_6 l0_6.length c0_6, .slice A0_7 l0_7.length c0_7] 50 (0, 0)) (by (with_reducible repeat (first | refine blk_drewN ?_ _ | refine blk_drew ?_ | refine blk_alloc ?_ _)); exact BK402.out)) : gb403 ≠ gb402)); clear BK402; clear HB; have BK402 := n0_; have HB := n1_; have BK403 := n2_; have GW403 := n3_; have GE403 := n4_; have NB402_403 := n5_; have NB403_402 := n6_; clear n0_ n1_ n2_ n3_ n4_ n5_ n6_; clear hb hbox hg))
 (try simp only [Act.put, s0_, s1_, s2_])
 go_cut [49] (fun v49 wc => ∃ (kq : Nat) (x49_2 : Bool), v49 = .bool x49_2 ∧ Aside0 (erratumlaw00_SameTree.j0 kq x49_2 a0_0 a0_1 a0_2 l0_3 a0_4 a0_5 l0_6 l0_7 a1_0 a1_1 a1_2 l1_3 a1_4 a1_5 l1_6 l1_7 = some r) ∧ Aside0 (kq ≤ k) ∧ Aside0 (wc.heap[gb402]? = some (.cells #[.int .i64 a0_0, .bool a0_1, .bool a0_2, (.slice A0_3 l0_3.length c0_3), .int .i64 a0_4, .string a0_5, (.slice A0_6 l0_6.length c0_6), (.slice A0_7 l0_7.length c0_7)] 50 (0, 0))) ∧ Aside0 (wc.heap[gb403]? = some (.cells #[.int .i64 a1_0, .bool a1_1, .bool a1_2, (.slice A1_3 l1_3.length c1_3), .int .i64 a1_4, .string a1_5, (.slice A1_6 l1_6.length c1_6), (.slice A1_7 l1_7.length c1_7)] 50 (0, 0))) ∧ Aside0 (Below w.heap.size w wc))
 case first =>
  have H := HC3.out
  clear HC3
  by_cases c6 : a0_0 = a1_0
  rotate_left
  ·rw [if_neg c6] at H
   have c6b0 : (a0_0 == a1_0) = false := beq_eq_false_iff_ne.mpr c6
   have c6b1 : (a0_0 != a1_0) = true := bne_iff_ne.mpr c6
   (first | rw [c6b0] | (simp only [i64_w, i32_w]; rw [c6b0]) | skip)
   have H' := Aside0.mk H
   clear H
   have hnb38 := NB402_403.out
   have hnc38 := NB403_402.out
   have hcz39_0 : w5.cell? ⟨gb402, 0, none⟩ = some (.int .i64 a0_0) := (blk_cell BK402.out 0).trans rfl
   have hcz39_1 : w5.cell? ⟨gb402, 1, none⟩ = some (.bool a0_1) := (blk_cell BK402.out 1).trans rfl
   have hcz39_2 : w5.cell? ⟨gb402, 2, none⟩ = some (.bool a0_2) := (blk_cell BK402.out 2).trans rfl
   have hcz39_3 : w5.cell? ⟨gb402, 3, none⟩ = some (.slice A0_3 l0_3.length c0_3) := (blk_cell BK402.out 3).trans rfl
   have hcz39_4 : w5.cell? ⟨gb402, 4, none⟩ = some (.int .i64 a0_4) := (blk_cell BK402.out 4).trans rfl
   have hcz39_5 : w5.cell? ⟨gb402, 5, none⟩ = some (.string a0_5) := (blk_cell BK402.out 5).trans rfl
   have hcz39_6 : w5.cell? ⟨gb402, 6, none⟩ = some (.slice A0_6 l0_6.length c0_6) := (blk_cell BK402.out 6).trans rfl
   have hcz39_7 : w5.cell? ⟨gb402, 7, none⟩ = some (.slice A0_7 l0_7.length c0_7) := (blk_cell BK402.out 7).trans rfl
   have hfz39_0 := blk_frozen BK402.out 0
   have hfz39_1 := blk_frozen BK402.out 1
   have hfz39_2 := blk_frozen BK402.out 2
   have hfz39_3 := blk_frozen BK402.out 3
   have hfz39_4 := blk_frozen BK402.out 4
   have hfz39_5 := blk_frozen BK402.out 5
   have hfz39_6 := blk_frozen BK402.out 6
   have hfz39_7 := blk_frozen BK402.out 7
   have hcz40_0 : w5.cell? ⟨gb403, 0, none⟩ = some (.int .i64 a1_0) := (blk_cell BK403.out 0).trans rfl
   have hcz40_1 : w5.cell? ⟨gb403, 1, none⟩ = some (.bool a1_1) := (blk_cell BK403.out 1).trans rfl
   have hcz40_2 : w5.cell? ⟨gb403, 2, none⟩ = some (.bool a1_2) := (blk_cell BK403.out 2).trans rfl
   have hcz40_3 : w5.cell? ⟨gb403, 3, none⟩ = some (.slice A1_3 l1_3.length c1_3) := (blk_cell BK403.out 3).trans rfl
   have hcz40_4 : w5.cell? ⟨gb403, 4, none⟩ = some (.int .i64 a1_4) := (blk_cell BK403.out 4).trans rfl
   have hcz40_5 : w5.cell? ⟨gb403, 5, none⟩ = some (.string a1_5) := (blk_cell BK403.out 5).trans rfl
   have hcz40_6 : w5.cell? ⟨gb403, 6, none⟩ = some (.slice A1_6 l1_6.length c1_6) := (blk_cell BK403.out 6).trans rfl
   have hcz40_7 : w5.cell? ⟨gb403, 7, none⟩ = some (.slice A1_7 l1_7.length c1_7) := (blk_cell BK403.out 7).trans rfl
   have hfz40_0 := blk_frozen BK403.out 0
   have hfz40_1 := blk_frozen BK403.out 1
   have hfz40_2 := blk_frozen BK403.out 2
   have hfz40_3 := blk_frozen BK403.out 3
   have hfz40_4 := blk_frozen BK403.out 4
   have hfz40_5 := blk_frozen BK403.out 5
   have hfz40_6 := blk_frozen BK403.out 6
   have hfz40_7 := blk_frozen BK403.out 7
   go_wp2
   go_meet
   case rel => exact ⟨_, (true), (by first | rfl | (simp; done) | (simp [*]; done)), H', ⟨by first | omega | exact Nat.le_refl _⟩, ⟨by (with_reducible repeat (first | refine blk_drewN ?_ _ | refine blk_drew ?_ | refine blk_alloc ?_ _)); exact BK402.out⟩, ⟨by (with_reducible repeat (first | refine blk_drewN ?_ _ | refine blk_drew ?_ | refine blk_alloc ?_ _)); exact BK403.out⟩, ⟨by repeat (first | (with_reducible first | exact HB.out | apply below_alloc | apply pw_below_drewN | apply below_drew1 | refine below_set ?_ GE402.out | refine below_set ?_ GE403.out) | exact HB.out)⟩⟩
  rw [if_pos c6] at H
  have c6b0 : (a0_0 == a1_0) = true := beq_iff_eq.mpr c6
  have c6b1 : (a0_0 != a1_0) = false := bne_eq_false_iff_eq.mpr c6
  clear c6
  (first | rw [c6b0] | (simp only [i64_w, i32_w]; rw [c6b0]) | skip)
  by_cases c7 : (a0_1 != a1_1) = true
  ·rw [if_pos c7] at H
   have c7b0 : (a0_1 != a1_1) = true := c7
   (try (have c7b1 : decide (a0_1 = a1_1) = false := by simpa using c7))
   (try (have c7b2 : (a0_1 == a1_1) = false := by simpa using c7))
   (try (have c7b3 : ¬ (a0_1 = a1_1) := by simpa using c7))
   clear c7
   have H' := Aside0.mk H
   clear H
   have hnb8 := NB402_403.out
   have hnc8 := NB403_402.out
   have hcz9_0 : w5.cell? ⟨gb402, 0, none⟩ = some (.int .i64 a0_0) := (blk_cell BK402.out 0).trans rfl
   have hcz9_1 : w5.cell? ⟨gb402, 1, none⟩ = some (.bool a0_1) := (blk_cell BK402.out 1).trans rfl
   have hcz9_2 : w5.cell? ⟨gb402, 2, none⟩ = some (.bool a0_2) := (blk_cell BK402.out 2).trans rfl
   have hcz9_3 : w5.cell? ⟨gb402, 3, none⟩ = some (.slice A0_3 l0_3.length c0_3) := (blk_cell BK402.out 3).trans rfl
   have hcz9_4 : w5.cell? ⟨gb402, 4, none⟩ = some (.int .i64 a0_4) := (blk_cell BK402.out 4).trans rfl
   have hcz9_5 : w5.cell? ⟨gb402, 5, none⟩ = some (.string a0_5) := (blk_cell BK402.out 5).trans rfl
   have hcz9_6 : w5.cell? ⟨gb402, 6, none⟩ = some (.slice A0_6 l0_6.length c0_6) := (blk_cell BK402.out 6).trans rfl
   have hcz9_7 : w5.cell? ⟨gb402, 7, none⟩ = some (.slice A0_7 l0_7.length c0_7) := (blk_cell BK402.out 7).trans rfl
   have hfz9_0 := blk_frozen BK402.out 0
   have hfz9_1 := blk_frozen BK402.out 1
   have hfz9_2 := blk_frozen BK402.out 2
   have hfz9_3 := blk_frozen BK402.out 3
   have hfz9_4 := blk_frozen BK402.out 4
   have hfz9_5 := blk_frozen BK402.out 5
   have hfz9_6 := blk_frozen BK402.out 6
   have hfz9_7 := blk_frozen BK402.out 7
   have hcz10_0 : w5.cell? ⟨gb403, 0, none⟩ = some (.int .i64 a1_0) := (blk_cell BK403.out 0).trans rfl
   have hcz10_1 : w5.cell? ⟨gb403, 1, none⟩ = some (.bool a1_1) := (blk_cell BK403.out 1).trans rfl
   have hcz10_2 : w5.cell? ⟨gb403, 2, none⟩ = some (.bool a1_2) := (blk_cell BK403.out 2).trans rfl
   have hcz10_3 : w5.cell? ⟨gb403, 3, none⟩ = some (.slice A1_3 l1_3.length c1_3) := (blk_cell BK403.out 3).trans rfl
   have hcz10_4 : w5.cell? ⟨gb403, 4, none⟩ = some (.int .i64 a1_4) := (blk_cell BK403.out 4).trans rfl
   have hcz10_5 : w5.cell? ⟨gb403, 5, none⟩ = some (.string a1_5) := (blk_cell BK403.out 5).trans rfl
   have hcz10_6 : w5.cell? ⟨gb403, 6, none⟩ = some (.slice A1_6 l1_6.length c1_6) := (blk_cell BK403.out 6).trans rfl
   have hcz10_7 : w5.cell? ⟨gb403, 7, none⟩ = some (.slice A1_7 l1_7.length c1_7) := (blk_cell BK403.out 7).trans rfl
   have hfz10_0 := blk_frozen BK403.out 0
   have hfz10_1 := blk_frozen BK403.out 1
   have hfz10_2 := blk_frozen BK403.out 2
   have hfz10_3 := blk_frozen BK403.out 3
   have hfz10_4 := blk_frozen BK403.out 4
   have hfz10_5 := blk_frozen BK403.out 5
   have hfz10_6 := blk_frozen BK403.out 6
   have hfz10_7 := blk_frozen BK403.out 7
   go_wp2
   go_meet
   case rel => exact ⟨_, (true), (by first | rfl | (simp; done) | (simp [*]; done)), H', ⟨by first | omega | exact Nat.le_refl _⟩, ⟨by (with_reducible repeat (first | refine blk_drewN ?_ _ | refine blk_drew ?_ | refine blk_alloc ?_ _)); exact BK402.out⟩, ⟨by (with_reducible repeat (first | refine blk_drewN ?_ _ | refine blk_drew ?_ | refine blk_alloc ?_ _)); exact BK403.out⟩, ⟨by repeat (first | (with_reducible first | exact HB.out | apply below_alloc | apply pw_below_drewN | apply below_drew1 | refine below_set ?_ GE402.out | refine below_set ?_ GE403.out) | exact HB.out)⟩⟩
  rw [if_neg c7] at H
  have c7b0 : (a0_1 != a1_1) = false := by simpa using c7
  (try (have c7b1 : decide (a0_1 = a1_1) = true := by simpa using c7))
  (try (have c7b2 : (a0_1 == a1_1) = true := by simpa using c7))
  clear c7
  replace H := Option.bind_eq_some_iff.mp H
  obtain ⟨t404, A110, H⟩ := H
  replace H : (if t404 = true then (if a0_5.toList = a1_5.toList then ((erratumlaw00_SameStrings.f k l0_6 l1_6).bind fun t405 => (if t405 = true then (erratumlaw00_SameTree.j0 k ((l0_7.length : Int) != (l1_7.length : Int)) a0_0 a0_1 a0_2 l0_3 a0_4 a0_5 l0_6 l0_7 a1_0 a1_1 a1_2 l1_3 a1_4 a1_5 l1_6 l1_7) else (erratumlaw00_SameTree.j0 k true a0_0 a0_1 a0_2 l0_3 a0_4 a0_5 l0_6 l0_7 a1_0 a1_1 a1_2 l1_3 a1_4 a1_5 l1_6 l1_7))) else (erratumlaw00_SameTree.j0 k true a0_0 a0_1 a0_2 l0_3 a0_4 a0_5 l0_6 l0_7 a1_0 a1_1 a1_2 l1_3 a1_4 a1_5 l1_6 l1_7)) else (erratumlaw00_SameTree.j0 k true a0_0 a0_1 a0_2 l0_3 a0_4 a0_5 l0_6 l0_7 a1_0 a1_1 a1_2 l1_3 a1_4 a1_5 l1_6 l1_7)) = some r := H
  have A11 := Aside0.mk A110
  clear A110
  by_cases c12 : t404 = true
  rotate_left
  ·replace c12 := Bool.eq_false_iff.mpr c12
   subst c12
   have H1 : (erratumlaw00_SameTree.j0 k true a0_0 a0_1 a0_2 l0_3 a0_4 a0_5 l0_6 l0_7 a1_0 a1_1 a1_2 l1_3 a1_4 a1_5 l1_6 l1_7) = some r := by rw [if_neg (show ¬ (false = true) by decide)] at H; exact H
   clear H
   have H := H1
   clear H1
   have H' := Aside0.mk H
   clear H
   have hnb34 := NB402_403.out
   have hnc34 := NB403_402.out
   have hcz35_0 : w5.cell? ⟨gb402, 0, none⟩ = some (.int .i64 a0_0) := (blk_cell BK402.out 0).trans rfl
   have hcz35_1 : w5.cell? ⟨gb402, 1, none⟩ = some (.bool a0_1) := (blk_cell BK402.out 1).trans rfl
   have hcz35_2 : w5.cell? ⟨gb402, 2, none⟩ = some (.bool a0_2) := (blk_cell BK402.out 2).trans rfl
   have hcz35_3 : w5.cell? ⟨gb402, 3, none⟩ = some (.slice A0_3 l0_3.length c0_3) := (blk_cell BK402.out 3).trans rfl
   have hcz35_4 : w5.cell? ⟨gb402, 4, none⟩ = some (.int .i64 a0_4) := (blk_cell BK402.out 4).trans rfl
   have hcz35_5 : w5.cell? ⟨gb402, 5, none⟩ = some (.string a0_5) := (blk_cell BK402.out 5).trans rfl
   have hcz35_6 : w5.cell? ⟨gb402, 6, none⟩ = some (.slice A0_6 l0_6.length c0_6) := (blk_cell BK402.out 6).trans rfl
   have hcz35_7 : w5.cell? ⟨gb402, 7, none⟩ = some (.slice A0_7 l0_7.length c0_7) := (blk_cell BK402.out 7).trans rfl
   have hfz35_0 := blk_frozen BK402.out 0
   have hfz35_1 := blk_frozen BK402.out 1
   have hfz35_2 := blk_frozen BK402.out 2
   have hfz35_3 := blk_frozen BK402.out 3
   have hfz35_4 := blk_frozen BK402.out 4
   have hfz35_5 := blk_frozen BK402.out 5
   have hfz35_6 := blk_frozen BK402.out 6
   have hfz35_7 := blk_frozen BK402.out 7
   have hcz36_0 : w5.cell? ⟨gb403, 0, none⟩ = some (.int .i64 a1_0) := (blk_cell BK403.out 0).trans rfl
   have hcz36_1 : w5.cell? ⟨gb403, 1, none⟩ = some (.bool a1_1) := (blk_cell BK403.out 1).trans rfl
   have hcz36_2 : w5.cell? ⟨gb403, 2, none⟩ = some (.bool a1_2) := (blk_cell BK403.out 2).trans rfl
   have hcz36_3 : w5.cell? ⟨gb403, 3, none⟩ = some (.slice A1_3 l1_3.length c1_3) := (blk_cell BK403.out 3).trans rfl
   have hcz36_4 : w5.cell? ⟨gb403, 4, none⟩ = some (.int .i64 a1_4) := (blk_cell BK403.out 4).trans rfl
   have hcz36_5 : w5.cell? ⟨gb403, 5, none⟩ = some (.string a1_5) := (blk_cell BK403.out 5).trans rfl
   have hcz36_6 : w5.cell? ⟨gb403, 6, none⟩ = some (.slice A1_6 l1_6.length c1_6) := (blk_cell BK403.out 6).trans rfl
   have hcz36_7 : w5.cell? ⟨gb403, 7, none⟩ = some (.slice A1_7 l1_7.length c1_7) := (blk_cell BK403.out 7).trans rfl
   have hfz36_0 := blk_frozen BK403.out 0
   have hfz36_1 := blk_frozen BK403.out 1
   have hfz36_2 := blk_frozen BK403.out 2
   have hfz36_3 := blk_frozen BK403.out 3
   have hfz36_4 := blk_frozen BK403.out 4
   have hfz36_5 := blk_frozen BK403.out 5
   have hfz36_6 := blk_frozen BK403.out 6
   have hfz36_7 := blk_frozen BK403.out 7
   go_wp2_with (first | (go_at_call 44; (with_reducible refine (erratumlaw00_SameNum.calls k a0_2 _ _ l0_3 a0_4 a1_2 _ _ l1_3 a1_4 false _ ?side1 ?side2 ?side3 ?side4 A11.out).mono ?_); (case side1 => repeat (first | exact (Kd.C_below HR0_3.out HB.out) | (with_reducible refine Kd.C_alloc ?_ _) | (with_reducible refine Kd.C_drewN ?_ _) | (with_reducible refine Kd.C_drew ?_))); (case side2 => exact HC0_3.out); (case side3 => repeat (first | exact (Kd.C_below HR1_3.out HB.out) | (with_reducible refine Kd.C_alloc ?_ _) | (with_reducible refine Kd.C_drewN ?_ _) | (with_reducible refine Kd.C_drew ?_))); (case side4 => exact HC1_3.out); rintro e w37 ⟨rfl, hb⟩; have n0_ := Aside0.mk (blk_below (g := gb402) (o := .cells #[.int .i64 a0_0, .bool a0_1, .bool a0_2, .slice A0_3 l0_3.length c0_3, .int .i64 a0_4, .string a0_5, .slice A0_6 l0_6.length c0_6, .slice A0_7 l0_7.length c0_7] 50 (0, 0)) (by (with_reducible repeat (first | refine blk_drewN ?_ _ | refine blk_drew ?_ | refine blk_alloc ?_ _)); exact BK402.out) hb); have n1_ := Aside0.mk (blk_below (g := gb403) (o := .cells #[.int .i64 a1_0, .bool a1_1, .bool a1_2, .slice A1_3 l1_3.length c1_3, .int .i64 a1_4, .string a1_5, .slice A1_6 l1_6.length c1_6, .slice A1_7 l1_7.length c1_7] 50 (0, 0)) (by (with_reducible repeat (first | refine blk_drewN ?_ _ | refine blk_drew ?_ | refine blk_alloc ?_ _)); exact BK403.out) hb); have n2_ := Aside0.mk (below_step (by repeat (first | (with_reducible first | exact HB.out | apply below_alloc | apply pw_below_drewN | apply below_drew1 | refine below_set ?_ GE402.out | refine below_set ?_ GE403.out) | exact HB.out)) hb); clear BK402; clear BK403; clear HB; have BK402 := n0_; have BK403 := n1_; have HB := n2_; clear n0_ n1_ n2_; (try clear hb); (try clear hb2); (try clear hk); (try clear hi)))
   go_meet
   case rel => exact ⟨_, (true), (by first | rfl | (simp; done) | (simp [*]; done)), H', ⟨by first | omega | exact Nat.le_refl _⟩, ⟨by (with_reducible repeat (first | refine blk_drewN ?_ _ | refine blk_drew ?_ | refine blk_alloc ?_ _)); exact BK402.out⟩, ⟨by (with_reducible repeat (first | refine blk_drewN ?_ _ | refine blk_drew ?_ | refine blk_alloc ?_ _)); exact BK403.out⟩, ⟨by repeat (first | (with_reducible first | exact HB.out | apply below_alloc | apply pw_below_drewN | apply below_drew1 | refine below_set ?_ GE402.out | refine below_set ?_ GE403.out) | exact HB.out)⟩⟩
  subst c12
  have H1 : (if a0_5.toList = a1_5.toList then ((erratumlaw00_SameStrings.f k l0_6 l1_6).bind fun t405 => (if t405 = true then (erratumlaw00_SameTree.j0 k ((l0_7.length : Int) != (l1_7.length : Int)) a0_0 a0_1 a0_2 l0_3 a0_4 a0_5 l0_6 l0_7 a1_0 a1_1 a1_2 l1_3 a1_4 a1_5 l1_6 l1_7) else (erratumlaw00_SameTree.j0 k true a0_0 a0_1 a0_2 l0_3 a0_4 a0_5 l0_6 l0_7 a1_0 a1_1 a1_2 l1_3 a1_4 a1_5 l1_6 l1_7))) else (erratumlaw00_SameTree.j0 k true a0_0 a0_1 a0_2 l0_3 a0_4 a0_5 l0_6 l0_7 a1_0 a1_1 a1_2 l1_3 a1_4 a1_5 l1_6 l1_7)) = some r := by rw [if_pos rfl] at H; exact H
  clear H
  have H := H1
  clear H1
  by_cases c13 : a0_5.toList = a1_5.toList
  rotate_left
  ·rw [if_neg c13] at H
   have c13b0 : (a0_5.toList == a1_5.toList) = false := beq_eq_false_iff_ne.mpr c13
   have c13b1 : (a0_5.toList != a1_5.toList) = true := bne_iff_ne.mpr c13
   have H' := Aside0.mk H
   clear H
   have hnb28 := NB402_403.out
   have hnc28 := NB403_402.out
   have hcz29_0 : w5.cell? ⟨gb402, 0, none⟩ = some (.int .i64 a0_0) := (blk_cell BK402.out 0).trans rfl
   have hcz29_1 : w5.cell? ⟨gb402, 1, none⟩ = some (.bool a0_1) := (blk_cell BK402.out 1).trans rfl
   have hcz29_2 : w5.cell? ⟨gb402, 2, none⟩ = some (.bool a0_2) := (blk_cell BK402.out 2).trans rfl
   have hcz29_3 : w5.cell? ⟨gb402, 3, none⟩ = some (.slice A0_3 l0_3.length c0_3) := (blk_cell BK402.out 3).trans rfl
   have hcz29_4 : w5.cell? ⟨gb402, 4, none⟩ = some (.int .i64 a0_4) := (blk_cell BK402.out 4).trans rfl
   have hcz29_5 : w5.cell? ⟨gb402, 5, none⟩ = some (.string a0_5) := (blk_cell BK402.out 5).trans rfl
   have hcz29_6 : w5.cell? ⟨gb402, 6, none⟩ = some (.slice A0_6 l0_6.length c0_6) := (blk_cell BK402.out 6).trans rfl
   have hcz29_7 : w5.cell? ⟨gb402, 7, none⟩ = some (.slice A0_7 l0_7.length c0_7) := (blk_cell BK402.out 7).trans rfl
   have hfz29_0 := blk_frozen BK402.out 0
   have hfz29_1 := blk_frozen BK402.out 1
   have hfz29_2 := blk_frozen BK402.out 2
   have hfz29_3 := blk_frozen BK402.out 3
   have hfz29_4 := blk_frozen BK402.out 4
   have hfz29_5 := blk_frozen BK402.out 5
   have hfz29_6 := blk_frozen BK402.out 6
   have hfz29_7 := blk_frozen BK402.out 7
   have hcz30_0 : w5.cell? ⟨gb403, 0, none⟩ = some (.int .i64 a1_0) := (blk_cell BK403.out 0).trans rfl
   have hcz30_1 : w5.cell? ⟨gb403, 1, none⟩ = some (.bool a1_1) := (blk_cell BK403.out 1).trans rfl
   have hcz30_2 : w5.cell? ⟨gb403, 2, none⟩ = some (.bool a1_2) := (blk_cell BK403.out 2).trans rfl
   have hcz30_3 : w5.cell? ⟨gb403, 3, none⟩ = some (.slice A1_3 l1_3.length c1_3) := (blk_cell BK403.out 3).trans rfl
   have hcz30_4 : w5.cell? ⟨gb403, 4, none⟩ = some (.int .i64 a1_4) := (blk_cell BK403.out 4).trans rfl
   have hcz30_5 : w5.cell? ⟨gb403, 5, none⟩ = some (.string a1_5) := (blk_cell BK403.out 5).trans rfl
   have hcz30_6 : w5.cell? ⟨gb403, 6, none⟩ = some (.slice A1_6 l1_6.length c1_6) := (blk_cell BK403.out 6).trans rfl
   have hcz30_7 : w5.cell? ⟨gb403, 7, none⟩ = some (.slice A1_7 l1_7.length c1_7) := (blk_cell BK403.out 7).trans rfl
   have hfz30_0 := blk_frozen BK403.out 0
   have hfz30_1 := blk_frozen BK403.out 1
   have hfz30_2 := blk_frozen BK403.out 2
   have hfz30_3 := blk_frozen BK403.out 3
   have hfz30_4 := blk_frozen BK403.out 4
   have hfz30_5 := blk_frozen BK403.out 5
   have hfz30_6 := blk_frozen BK403.out 6
   have hfz30_7 := blk_frozen BK403.out 7
   go_wp2_with (first | (go_at_call 44; (with_reducible refine (erratumlaw00_SameNum.calls k a0_2 _ _ l0_3 a0_4 a1_2 _ _ l1_3 a1_4 true _ ?side1 ?side2 ?side3 ?side4 A11.out).mono ?_); (case side1 => repeat (first | exact (Kd.C_below HR0_3.out HB.out) | (with_reducible refine Kd.C_alloc ?_ _) | (with_reducible refine Kd.C_drewN ?_ _) | (with_reducible refine Kd.C_drew ?_))); (case side2 => exact HC0_3.out); (case side3 => repeat (first | exact (Kd.C_below HR1_3.out HB.out) | (with_reducible refine Kd.C_alloc ?_ _) | (with_reducible refine Kd.C_drewN ?_ _) | (with_reducible refine Kd.C_drew ?_))); (case side4 => exact HC1_3.out); rintro e w31 ⟨rfl, hb⟩; have n0_ := Aside0.mk (blk_below (g := gb402) (o := .cells #[.int .i64 a0_0, .bool a0_1, .bool a0_2, .slice A0_3 l0_3.length c0_3, .int .i64 a0_4, .string a0_5, .slice A0_6 l0_6.length c0_6, .slice A0_7 l0_7.length c0_7] 50 (0, 0)) (by (with_reducible repeat (first | refine blk_drewN ?_ _ | refine blk_drew ?_ | refine blk_alloc ?_ _)); exact BK402.out) hb); have n1_ := Aside0.mk (blk_below (g := gb403) (o := .cells #[.int .i64 a1_0, .bool a1_1, .bool a1_2, .slice A1_3 l1_3.length c1_3, .int .i64 a1_4, .string a1_5, .slice A1_6 l1_6.length c1_6, .slice A1_7 l1_7.length c1_7] 50 (0, 0)) (by (with_reducible repeat (first | refine blk_drewN ?_ _ | refine blk_drew ?_ | refine blk_alloc ?_ _)); exact BK403.out) hb); have n2_ := Aside0.mk (below_step (by repeat (first | (with_reducible first | exact HB.out | apply below_alloc | apply pw_below_drewN | apply below_drew1 | refine below_set ?_ GE402.out | refine below_set ?_ GE403.out) | exact HB.out)) hb); clear BK402; clear BK403; clear HB; have BK402 := n0_; have BK403 := n1_; have HB := n2_; clear n0_ n1_ n2_; (try clear hb); (try clear hb2); (try clear hk); (try clear hi); have hcz32_0 : w31.cell? ⟨gb402, 0, none⟩ = some (.int .i64 a0_0) := (blk_cell BK402.out 0).trans rfl; have hcz32_1 : w31.cell? ⟨gb402, 1, none⟩ = some (.bool a0_1) := (blk_cell BK402.out 1).trans rfl; have hcz32_2 : w31.cell? ⟨gb402, 2, none⟩ = some (.bool a0_2) := (blk_cell BK402.out 2).trans rfl; have hcz32_3 : w31.cell? ⟨gb402, 3, none⟩ = some (.slice A0_3 l0_3.length c0_3) := (blk_cell BK402.out 3).trans rfl; have hcz32_4 : w31.cell? ⟨gb402, 4, none⟩ = some (.int .i64 a0_4) := (blk_cell BK402.out 4).trans rfl; have hcz32_5 : w31.cell? ⟨gb402, 5, none⟩ = some (.string a0_5) := (blk_cell BK402.out 5).trans rfl; have hcz32_6 : w31.cell? ⟨gb402, 6, none⟩ = some (.slice A0_6 l0_6.length c0_6) := (blk_cell BK402.out 6).trans rfl; have hcz32_7 : w31.cell? ⟨gb402, 7, none⟩ = some (.slice A0_7 l0_7.length c0_7) := (blk_cell BK402.out 7).trans rfl; have hfz32_0 := blk_frozen BK402.out 0; have hfz32_1 := blk_frozen BK402.out 1; have hfz32_2 := blk_frozen BK402.out 2; have hfz32_3 := blk_frozen BK402.out 3; have hfz32_4 := blk_frozen BK402.out 4; have hfz32_5 := blk_frozen BK402.out 5; have hfz32_6 := blk_frozen BK402.out 6; have hfz32_7 := blk_frozen BK402.out 7; have hcz33_0 : w31.cell? ⟨gb403, 0, none⟩ = some (.int .i64 a1_0) := (blk_cell BK403.out 0).trans rfl; have hcz33_1 : w31.cell? ⟨gb403, 1, none⟩ = some (.bool a1_1) := (blk_cell BK403.out 1).trans rfl; have hcz33_2 : w31.cell? ⟨gb403, 2, none⟩ = some (.bool a1_2) := (blk_cell BK403.out 2).trans rfl; have hcz33_3 : w31.cell? ⟨gb403, 3, none⟩ = some (.slice A1_3 l1_3.length c1_3) := (blk_cell BK403.out 3).trans rfl; have hcz33_4 : w31.cell? ⟨gb403, 4, none⟩ = some (.int .i64 a1_4) := (blk_cell BK403.out 4).trans rfl; have hcz33_5 : w31.cell? ⟨gb403, 5, none⟩ = some (.string a1_5) := (blk_cell BK403.out 5).trans rfl; have hcz33_6 : w31.cell? ⟨gb403, 6, none⟩ = some (.slice A1_6 l1_6.length c1_6) := (blk_cell BK403.out 6).trans rfl; have hcz33_7 : w31.cell? ⟨gb403, 7, none⟩ = some (.slice A1_7 l1_7.length c1_7) := (blk_cell BK403.out 7).trans rfl; have hfz33_0 := blk_frozen BK403.out 0; have hfz33_1 := blk_frozen BK403.out 1; have hfz33_2 := blk_frozen BK403.out 2; have hfz33_3 := blk_frozen BK403.out 3; have hfz33_4 := blk_frozen BK403.out 4; have hfz33_5 := blk_frozen BK403.out 5; have hfz33_6 := blk_frozen BK403.out 6; have hfz33_7 := blk_frozen BK403.out 7))
   go_meet
   case rel => exact ⟨_, (true), (by first | rfl | (simp; done) | (simp [*]; done)), H', ⟨by first | omega | exact Nat.le_refl _⟩, ⟨by (with_reducible repeat (first | refine blk_drewN ?_ _ | refine blk_drew ?_ | refine blk_alloc ?_ _)); exact BK402.out⟩, ⟨by (with_reducible repeat (first | refine blk_drewN ?_ _ | refine blk_drew ?_ | refine blk_alloc ?_ _)); exact BK403.out⟩, ⟨by repeat (first | (with_reducible first | exact HB.out | apply below_alloc | apply pw_below_drewN | apply below_drew1 | refine below_set ?_ GE402.out | refine below_set ?_ GE403.out) | exact HB.out)⟩⟩
  rw [if_pos c13] at H
  have c13b0 : (a0_5.toList == a1_5.toList) = true := beq_iff_eq.mpr c13
  have c13b1 : (a0_5.toList != a1_5.toList) = false := bne_eq_false_iff_eq.mpr c13
  clear c13
  replace H := Option.bind_eq_some_iff.mp H
  obtain ⟨t405, A140, H⟩ := H
  replace H : (if t405 = true then (erratumlaw00_SameTree.j0 k ((l0_7.length : Int) != (l1_7.length : Int)) a0_0 a0_1 a0_2 l0_3 a0_4 a0_5 l0_6 l0_7 a1_0 a1_1 a1_2 l1_3 a1_4 a1_5 l1_6 l1_7) else (erratumlaw00_SameTree.j0 k true a0_0 a0_1 a0_2 l0_3 a0_4 a0_5 l0_6 l0_7 a1_0 a1_1 a1_2 l1_3 a1_4 a1_5 l1_6 l1_7)) = some r := H
  have A14 := Aside0.mk A140
  clear A140
  by_cases c15 : t405 = true
  rotate_left
  ·replace c15 := Bool.eq_false_iff.mpr c15
   subst c15
   have H1 : (erratumlaw00_SameTree.j0 k true a0_0 a0_1 a0_2 l0_3 a0_4 a0_5 l0_6 l0_7 a1_0 a1_1 a1_2 l1_3 a1_4 a1_5 l1_6 l1_7) = some r := by rw [if_neg (show ¬ (false = true) by decide)] at H; exact H
   clear H
   have H := H1
   clear H1
   have H' := Aside0.mk H
   clear H
   have hnb22 := NB402_403.out
   have hnc22 := NB403_402.out
   have hcz23_0 : w5.cell? ⟨gb402, 0, none⟩ = some (.int .i64 a0_0) := (blk_cell BK402.out 0).trans rfl
   have hcz23_1 : w5.cell? ⟨gb402, 1, none⟩ = some (.bool a0_1) := (blk_cell BK402.out 1).trans rfl
   have hcz23_2 : w5.cell? ⟨gb402, 2, none⟩ = some (.bool a0_2) := (blk_cell BK402.out 2).trans rfl
   have hcz23_3 : w5.cell? ⟨gb402, 3, none⟩ = some (.slice A0_3 l0_3.length c0_3) := (blk_cell BK402.out 3).trans rfl
   have hcz23_4 : w5.cell? ⟨gb402, 4, none⟩ = some (.int .i64 a0_4) := (blk_cell BK402.out 4).trans rfl
   have hcz23_5 : w5.cell? ⟨gb402, 5, none⟩ = some (.string a0_5) := (blk_cell BK402.out 5).trans rfl
   have hcz23_6 : w5.cell? ⟨gb402, 6, none⟩ = some (.slice A0_6 l0_6.length c0_6) := (blk_cell BK402.out 6).trans rfl
   have hcz23_7 : w5.cell? ⟨gb402, 7, none⟩ = some (.slice A0_7 l0_7.length c0_7) := (blk_cell BK402.out 7).trans rfl
   have hfz23_0 := blk_frozen BK402.out 0
   have hfz23_1 := blk_frozen BK402.out 1
   have hfz23_2 := blk_frozen BK402.out 2
   have hfz23_3 := blk_frozen BK402.out 3
   have hfz23_4 := blk_frozen BK402.out 4
   have hfz23_5 := blk_frozen BK402.out 5
   have hfz23_6 := blk_frozen BK402.out 6
   have hfz23_7 := blk_frozen BK402.out 7
   have hcz24_0 : w5.cell? ⟨gb403, 0, none⟩ = some (.int .i64 a1_0) := (blk_cell BK403.out 0).trans rfl
   have hcz24_1 : w5.cell? ⟨gb403, 1, none⟩ = some (.bool a1_1) := (blk_cell BK403.out 1).trans rfl
   have hcz24_2 : w5.cell? ⟨gb403, 2, none⟩ = some (.bool a1_2) := (blk_cell BK403.out 2).trans rfl
   have hcz24_3 : w5.cell? ⟨gb403, 3, none⟩ = some (.slice A1_3 l1_3.length c1_3) := (blk_cell BK403.out 3).trans rfl
   have hcz24_4 : w5.cell? ⟨gb403, 4, none⟩ = some (.int .i64 a1_4) := (blk_cell BK403.out 4).trans rfl
   have hcz24_5 : w5.cell? ⟨gb403, 5, none⟩ = some (.string a1_5) := (blk_cell BK403.out 5).trans rfl
   have hcz24_6 : w5.cell? ⟨gb403, 6, none⟩ = some (.slice A1_6 l1_6.length c1_6) := (blk_cell BK403.out 6).trans rfl
   have hcz24_7 : w5.cell? ⟨gb403, 7, none⟩ = some (.slice A1_7 l1_7.length c1_7) := (blk_cell BK403.out 7).trans rfl
   have hfz24_0 := blk_frozen BK403.out 0
   have hfz24_1 := blk_frozen BK403.out 1
   have hfz24_2 := blk_frozen BK403.out 2
   have hfz24_3 := blk_frozen BK403.out 3
   have hfz24_4 := blk_frozen BK403.out 4
   have hfz24_5 := blk_frozen BK403.out 5
   have hfz24_6 := blk_frozen BK403.out 6
   have hfz24_7 := blk_frozen BK403.out 7
   go_wp2_with (first | (go_at_call 44; (with_reducible refine (erratumlaw00_SameNum.calls k a0_2 _ _ l0_3 a0_4 a1_2 _ _ l1_3 a1_4 true _ ?side1 ?side2 ?side3 ?side4 A11.out).mono ?_); (case side1 => repeat (first | exact (Kd.C_below HR0_3.out HB.out) | (with_reducible refine Kd.C_alloc ?_ _) | (with_reducible refine Kd.C_drewN ?_ _) | (with_reducible refine Kd.C_drew ?_))); (case side2 => exact HC0_3.out); (case side3 => repeat (first | exact (Kd.C_below HR1_3.out HB.out) | (with_reducible refine Kd.C_alloc ?_ _) | (with_reducible refine Kd.C_drewN ?_ _) | (with_reducible refine Kd.C_drew ?_))); (case side4 => exact HC1_3.out); rintro e w25 ⟨rfl, hb⟩; have n0_ := Aside0.mk (blk_below (g := gb402) (o := .cells #[.int .i64 a0_0, .bool a0_1, .bool a0_2, .slice A0_3 l0_3.length c0_3, .int .i64 a0_4, .string a0_5, .slice A0_6 l0_6.length c0_6, .slice A0_7 l0_7.length c0_7] 50 (0, 0)) (by (with_reducible repeat (first | refine blk_drewN ?_ _ | refine blk_drew ?_ | refine blk_alloc ?_ _)); exact BK402.out) hb); have n1_ := Aside0.mk (blk_below (g := gb403) (o := .cells #[.int .i64 a1_0, .bool a1_1, .bool a1_2, .slice A1_3 l1_3.length c1_3, .int .i64 a1_4, .string a1_5, .slice A1_6 l1_6.length c1_6, .slice A1_7 l1_7.length c1_7] 50 (0, 0)) (by (with_reducible repeat (first | refine blk_drewN ?_ _ | refine blk_drew ?_ | refine blk_alloc ?_ _)); exact BK403.out) hb); have n2_ := Aside0.mk (below_step (by repeat (first | (with_reducible first | exact HB.out | apply below_alloc | apply pw_below_drewN | apply below_drew1 | refine below_set ?_ GE402.out | refine below_set ?_ GE403.out) | exact HB.out)) hb); clear BK402; clear BK403; clear HB; have BK402 := n0_; have BK403 := n1_; have HB := n2_; clear n0_ n1_ n2_; (try clear hb); (try clear hb2); (try clear hk); (try clear hi); have hcz26_0 : w25.cell? ⟨gb402, 0, none⟩ = some (.int .i64 a0_0) := (blk_cell BK402.out 0).trans rfl; have hcz26_1 : w25.cell? ⟨gb402, 1, none⟩ = some (.bool a0_1) := (blk_cell BK402.out 1).trans rfl; have hcz26_2 : w25.cell? ⟨gb402, 2, none⟩ = some (.bool a0_2) := (blk_cell BK402.out 2).trans rfl; have hcz26_3 : w25.cell? ⟨gb402, 3, none⟩ = some (.slice A0_3 l0_3.length c0_3) := (blk_cell BK402.out 3).trans rfl; have hcz26_4 : w25.cell? ⟨gb402, 4, none⟩ = some (.int .i64 a0_4) := (blk_cell BK402.out 4).trans rfl; have hcz26_5 : w25.cell? ⟨gb402, 5, none⟩ = some (.string a0_5) := (blk_cell BK402.out 5).trans rfl; have hcz26_6 : w25.cell? ⟨gb402, 6, none⟩ = some (.slice A0_6 l0_6.length c0_6) := (blk_cell BK402.out 6).trans rfl; have hcz26_7 : w25.cell? ⟨gb402, 7, none⟩ = some (.slice A0_7 l0_7.length c0_7) := (blk_cell BK402.out 7).trans rfl; have hfz26_0 := blk_frozen BK402.out 0; have hfz26_1 := blk_frozen BK402.out 1; have hfz26_2 := blk_frozen BK402.out 2; have hfz26_3 := blk_frozen BK402.out 3; have hfz26_4 := blk_frozen BK402.out 4; have hfz26_5 := blk_frozen BK402.out 5; have hfz26_6 := blk_frozen BK402.out 6; have hfz26_7 := blk_frozen BK402.out 7; have hcz27_0 : w25.cell? ⟨gb403, 0, none⟩ = some (.int .i64 a1_0) := (blk_cell BK403.out 0).trans rfl; have hcz27_1 : w25.cell? ⟨gb403, 1, none⟩ = some (.bool a1_1) := (blk_cell BK403.out 1).trans rfl; have hcz27_2 : w25.cell? ⟨gb403, 2, none⟩ = some (.bool a1_2) := (blk_cell BK403.out 2).trans rfl; have hcz27_3 : w25.cell? ⟨gb403, 3, none⟩ = some (.slice A1_3 l1_3.length c1_3) := (blk_cell BK403.out 3).trans rfl; have hcz27_4 : w25.cell? ⟨gb403, 4, none⟩ = some (.int .i64 a1_4) := (blk_cell BK403.out 4).trans rfl; have hcz27_5 : w25.cell? ⟨gb403, 5, none⟩ = some (.string a1_5) := (blk_cell BK403.out 5).trans rfl; have hcz27_6 : w25.cell? ⟨gb403, 6, none⟩ = some (.slice A1_6 l1_6.length c1_6) := (blk_cell BK403.out 6).trans rfl; have hcz27_7 : w25.cell? ⟨gb403, 7, none⟩ = some (.slice A1_7 l1_7.length c1_7) := (blk_cell BK403.out 7).trans rfl; have hfz27_0 := blk_frozen BK403.out 0; have hfz27_1 := blk_frozen BK403.out 1; have hfz27_2 := blk_frozen BK403.out 2; have hfz27_3 := blk_frozen BK403.out 3; have hfz27_4 := blk_frozen BK403.out 4; have hfz27_5 := blk_frozen BK403.out 5; have hfz27_6 := blk_frozen BK403.out 6; have hfz27_7 := blk_frozen BK403.out 7) | (go_at_call 45; (with_reducible refine (erratumlaw00_SameStrings.calls k _ _ l0_6 _ _ l1_6 false _ ?side1 ?side2 ?side3 ?side4 A14.out).mono ?_); (case side1 => repeat (first | exact (Kd.C_below HR0_6.out HB.out) | (with_reducible refine Kd.C_alloc ?_ _) | (with_reducible refine Kd.C_drewN ?_ _) | (with_reducible refine Kd.C_drew ?_))); (case side2 => exact HC0_6.out); (case side3 => repeat (first | exact (Kd.C_below HR1_6.out HB.out) | (with_reducible refine Kd.C_alloc ?_ _) | (with_reducible refine Kd.C_drewN ?_ _) | (with_reducible refine Kd.C_drew ?_))); (case side4 => exact HC1_6.out); rintro e w' ⟨rfl, ⟨nd, rfl⟩⟩))
   go_meet
   case rel => exact ⟨_, (true), (by first | rfl | (simp; done) | (simp [*]; done)), H', ⟨by first | omega | exact Nat.le_refl _⟩, ⟨by (with_reducible repeat (first | refine blk_drewN ?_ _ | refine blk_drew ?_ | refine blk_alloc ?_ _)); exact BK402.out⟩, ⟨by (with_reducible repeat (first | refine blk_drewN ?_ _ | refine blk_drew ?_ | refine blk_alloc ?_ _)); exact BK403.out⟩, ⟨by repeat (first | (with_reducible first | exact HB.out | apply below_alloc | apply pw_below_drewN | apply below_drew1 | refine below_set ?_ GE402.out | refine below_set ?_ GE403.out) | exact HB.out)⟩⟩
  subst c15
  have H1 : (erratumlaw00_SameTree.j0 k ((l0_7.length : Int) != (l1_7.length : Int)) a0_0 a0_1 a0_2 l0_3 a0_4 a0_5 l0_6 l0_7 a1_0 a1_1 a1_2 l1_3 a1_4 a1_5 l1_6 l1_7) = some r := by rw [if_pos rfl] at H; exact H
  clear H
  have H := H1
  clear H1
  have H' := Aside0.mk H
  clear H
  have hnb16 := NB402_403.out
  have hnc16 := NB403_402.out
  have hcz17_0 : w5.cell? ⟨gb402, 0, none⟩ = some (.int .i64 a0_0) := (blk_cell BK402.out 0).trans rfl
  have hcz17_1 : w5.cell? ⟨gb402, 1, none⟩ = some (.bool a0_1) := (blk_cell BK402.out 1).trans rfl
  have hcz17_2 : w5.cell? ⟨gb402, 2, none⟩ = some (.bool a0_2) := (blk_cell BK402.out 2).trans rfl
  have hcz17_3 : w5.cell? ⟨gb402, 3, none⟩ = some (.slice A0_3 l0_3.length c0_3) := (blk_cell BK402.out 3).trans rfl
  have hcz17_4 : w5.cell? ⟨gb402, 4, none⟩ = some (.int .i64 a0_4) := (blk_cell BK402.out 4).trans rfl
  have hcz17_5 : w5.cell? ⟨gb402, 5, none⟩ = some (.string a0_5) := (blk_cell BK402.out 5).trans rfl
  have hcz17_6 : w5.cell? ⟨gb402, 6, none⟩ = some (.slice A0_6 l0_6.length c0_6) := (blk_cell BK402.out 6).trans rfl
  have hcz17_7 : w5.cell? ⟨gb402, 7, none⟩ = some (.slice A0_7 l0_7.length c0_7) := (blk_cell BK402.out 7).trans rfl
  have hfz17_0 := blk_frozen BK402.out 0
  have hfz17_1 := blk_frozen BK402.out 1
  have hfz17_2 := blk_frozen BK402.out 2
  have hfz17_3 := blk_frozen BK402.out 3
  have hfz17_4 := blk_frozen BK402.out 4
  have hfz17_5 := blk_frozen BK402.out 5
  have hfz17_6 := blk_frozen BK402.out 6
  have hfz17_7 := blk_frozen BK402.out 7
  have hcz18_0 : w5.cell? ⟨gb403, 0, none⟩ = some (.int .i64 a1_0) := (blk_cell BK403.out 0).trans rfl
  have hcz18_1 : w5.cell? ⟨gb403, 1, none⟩ = some (.bool a1_1) := (blk_cell BK403.out 1).trans rfl
  have hcz18_2 : w5.cell? ⟨gb403, 2, none⟩ = some (.bool a1_2) := (blk_cell BK403.out 2).trans rfl
  have hcz18_3 : w5.cell? ⟨gb403, 3, none⟩ = some (.slice A1_3 l1_3.length c1_3) := (blk_cell BK403.out 3).trans rfl
  have hcz18_4 : w5.cell? ⟨gb403, 4, none⟩ = some (.int .i64 a1_4) := (blk_cell BK403.out 4).trans rfl
  have hcz18_5 : w5.cell? ⟨gb403, 5, none⟩ = some (.string a1_5) := (blk_cell BK403.out 5).trans rfl
  have hcz18_6 : w5.cell? ⟨gb403, 6, none⟩ = some (.slice A1_6 l1_6.length c1_6) := (blk_cell BK403.out 6).trans rfl
  have hcz18_7 : w5.cell? ⟨gb403, 7, none⟩ = some (.slice A1_7 l1_7.length c1_7) := (blk_cell BK403.out 7).trans rfl
  have hfz18_0 := blk_frozen BK403.out 0
  have hfz18_1 := blk_frozen BK403.out 1
  have hfz18_2 := blk_frozen BK403.out 2
  have hfz18_3 := blk_frozen BK403.out 3
  have hfz18_4 := blk_frozen BK403.out 4
  have hfz18_5 := blk_frozen BK403.out 5
  have hfz18_6 := blk_frozen BK403.out 6
  have hfz18_7 := blk_frozen BK403.out 7
  go_wp2_with (first | (go_at_call 44; (with_reducible refine (erratumlaw00_SameNum.calls k a0_2 _ _ l0_3 a0_4 a1_2 _ _ l1_3 a1_4 true _ ?side1 ?side2 ?side3 ?side4 A11.out).mono ?_); (case side1 => repeat (first | exact (Kd.C_below HR0_3.out HB.out) | (with_reducible refine Kd.C_alloc ?_ _) | (with_reducible refine Kd.C_drewN ?_ _) | (with_reducible refine Kd.C_drew ?_))); (case side2 => exact HC0_3.out); (case side3 => repeat (first | exact (Kd.C_below HR1_3.out HB.out) | (with_reducible refine Kd.C_alloc ?_ _) | (with_reducible refine Kd.C_drewN ?_ _) | (with_reducible refine Kd.C_drew ?_))); (case side4 => exact HC1_3.out); rintro e w19 ⟨rfl, hb⟩; have n0_ := Aside0.mk (blk_below (g := gb402) (o := .cells #[.int .i64 a0_0, .bool a0_1, .bool a0_2, .slice A0_3 l0_3.length c0_3, .int .i64 a0_4, .string a0_5, .slice A0_6 l0_6.length c0_6, .slice A0_7 l0_7.length c0_7] 50 (0, 0)) (by (with_reducible repeat (first | refine blk_drewN ?_ _ | refine blk_drew ?_ | refine blk_alloc ?_ _)); exact BK402.out) hb); have n1_ := Aside0.mk (blk_below (g := gb403) (o := .cells #[.int .i64 a1_0, .bool a1_1, .bool a1_2, .slice A1_3 l1_3.length c1_3, .int .i64 a1_4, .string a1_5, .slice A1_6 l1_6.length c1_6, .slice A1_7 l1_7.length c1_7] 50 (0, 0)) (by (with_reducible repeat (first | refine blk_drewN ?_ _ | refine blk_drew ?_ | refine blk_alloc ?_ _)); exact BK403.out) hb); have n2_ := Aside0.mk (below_step (by repeat (first | (with_reducible first | exact HB.out | apply below_alloc | apply pw_below_drewN | apply below_drew1 | refine below_set ?_ GE402.out | refine below_set ?_ GE403.out) | exact HB.out)) hb); clear BK402; clear BK403; clear HB; have BK402 := n0_; have BK403 := n1_; have HB := n2_; clear n0_ n1_ n2_; (try clear hb); (try clear hb2); (try clear hk); (try clear hi); have hcz20_0 : w19.cell? ⟨gb402, 0, none⟩ = some (.int .i64 a0_0) := (blk_cell BK402.out 0).trans rfl; have hcz20_1 : w19.cell? ⟨gb402, 1, none⟩ = some (.bool a0_1) := (blk_cell BK402.out 1).trans rfl; have hcz20_2 : w19.cell? ⟨gb402, 2, none⟩ = some (.bool a0_2) := (blk_cell BK402.out 2).trans rfl; have hcz20_3 : w19.cell? ⟨gb402, 3, none⟩ = some (.slice A0_3 l0_3.length c0_3) := (blk_cell BK402.out 3).trans rfl; have hcz20_4 : w19.cell? ⟨gb402, 4, none⟩ = some (.int .i64 a0_4) := (blk_cell BK402.out 4).trans rfl; have hcz20_5 : w19.cell? ⟨gb402, 5, none⟩ = some (.string a0_5) := (blk_cell BK402.out 5).trans rfl; have hcz20_6 : w19.cell? ⟨gb402, 6, none⟩ = some (.slice A0_6 l0_6.length c0_6) := (blk_cell BK402.out 6).trans rfl; have hcz20_7 : w19.cell? ⟨gb402, 7, none⟩ = some (.slice A0_7 l0_7.length c0_7) := (blk_cell BK402.out 7).trans rfl; have hfz20_0 := blk_frozen BK402.out 0; have hfz20_1 := blk_frozen BK402.out 1; have hfz20_2 := blk_frozen BK402.out 2; have hfz20_3 := blk_frozen BK402.out 3; have hfz20_4 := blk_frozen BK402.out 4; have hfz20_5 := blk_frozen BK402.out 5; have hfz20_6 := blk_frozen BK402.out 6; have hfz20_7 := blk_frozen BK402.out 7; have hcz21_0 : w19.cell? ⟨gb403, 0, none⟩ = some (.int .i64 a1_0) := (blk_cell BK403.out 0).trans rfl; have hcz21_1 : w19.cell? ⟨gb403, 1, none⟩ = some (.bool a1_1) := (blk_cell BK403.out 1).trans rfl; have hcz21_2 : w19.cell? ⟨gb403, 2, none⟩ = some (.bool a1_2) := (blk_cell BK403.out 2).trans rfl; have hcz21_3 : w19.cell? ⟨gb403, 3, none⟩ = some (.slice A1_3 l1_3.length c1_3) := (blk_cell BK403.out 3).trans rfl; have hcz21_4 : w19.cell? ⟨gb403, 4, none⟩ = some (.int .i64 a1_4) := (blk_cell BK403.out 4).trans rfl; have hcz21_5 : w19.cell? ⟨gb403, 5, none⟩ = some (.string a1_5) := (blk_cell BK403.out 5).trans rfl; have hcz21_6 : w19.cell? ⟨gb403, 6, none⟩ = some (.slice A1_6 l1_6.length c1_6) := (blk_cell BK403.out 6).trans rfl; have hcz21_7 : w19.cell? ⟨gb403, 7, none⟩ = some (.slice A1_7 l1_7.length c1_7) := (blk_cell BK403.out 7).trans rfl; have hfz21_0 := blk_frozen BK403.out 0; have hfz21_1 := blk_frozen BK403.out 1; have hfz21_2 := blk_frozen BK403.out 2; have hfz21_3 := blk_frozen BK403.out 3; have hfz21_4 := blk_frozen BK403.out 4; have hfz21_5 := blk_frozen BK403.out 5; have hfz21_6 := blk_frozen BK403.out 6; have hfz21_7 := blk_frozen BK403.out 7) | (go_at_call 45; (with_reducible refine (erratumlaw00_SameStrings.calls k _ _ l0_6 _ _ l1_6 true _ ?side1 ?side2 ?side3 ?side4 A14.out).mono ?_); (case side1 => repeat (first | exact (Kd.C_below HR0_6.out HB.out) | (with_reducible refine Kd.C_alloc ?_ _) | (with_reducible refine Kd.C_drewN ?_ _) | (with_reducible refine Kd.C_drew ?_))); (case side2 => exact HC0_6.out); (case side3 => repeat (first | exact (Kd.C_below HR1_6.out HB.out) | (with_reducible refine Kd.C_alloc ?_ _) | (with_reducible refine Kd.C_drewN ?_ _) | (with_reducible refine Kd.C_drew ?_))); (case side4 => exact HC1_6.out); rintro e w' ⟨rfl, ⟨nd, rfl⟩⟩))
  go_meet
  case rel => exact ⟨_, (((l0_7.length : Int) != (l1_7.length : Int))), (by first | rfl | (simp; done) | (simp [*]; done)), H', ⟨by first | omega | exact Nat.le_refl _⟩, ⟨by (with_reducible repeat (first | refine blk_drewN ?_ _ | refine blk_drew ?_ | refine blk_alloc ?_ _)); exact BK402.out⟩, ⟨by (with_reducible repeat (first | refine blk_drewN ?_ _ | refine blk_drew ?_ | refine blk_alloc ?_ _)); exact BK403.out⟩, ⟨by repeat (first | (with_reducible first | exact HB.out | apply below_alloc | apply pw_below_drewN | apply below_drew1 | refine below_set ?_ GE402.out | refine below_set ?_ GE403.out) | exact HB.out)⟩⟩
 case rest =>
  clear HC3
  try clear c6
  try clear c6b0
  try clear c6b1
  try clear c7
  try clear c7b0
  try clear c7b1
  try clear c7b2
  try clear c12
  try clear c13
  try clear c13b0
  try clear c13b1
  try clear c15
  try clear hcz10_0
  try clear hcz10_1
  try clear hcz10_2
  try clear hcz10_3
  try clear hcz10_4
  try clear hcz10_5
  try clear hcz10_6
  try clear hcz10_7
  try clear hcz17_0
  try clear hcz17_1
  try clear hcz17_2
  try clear hcz17_3
  try clear hcz17_4
  try clear hcz17_5
  try clear hcz17_6
  try clear hcz17_7
  try clear hcz18_0
  try clear hcz18_1
  try clear hcz18_2
  try clear hcz18_3
  try clear hcz18_4
  try clear hcz18_5
  try clear hcz18_6
  try clear hcz18_7
  try clear hcz20_0
  try clear hcz20_1
  try clear hcz20_2
  try clear hcz20_3
  try clear hcz20_4
  try clear hcz20_5
  try clear hcz20_6
  try clear hcz20_7
  try clear hcz21_0
  try clear hcz21_1
  try clear hcz21_2
  try clear hcz21_3
  try clear hcz21_4
  try clear hcz21_5
  try clear hcz21_6
  try clear hcz21_7
  try clear hcz23_0
  try clear hcz23_1
  try clear hcz23_2
  try clear hcz23_3
  try clear hcz23_4
  try clear hcz23_5
  try clear hcz23_6
  try clear hcz23_7
  try clear hcz24_0
  try clear hcz24_1
  try clear hcz24_2
  try clear hcz24_3
  try clear hcz24_4
  try clear hcz24_5
  try clear hcz24_6
  try clear hcz24_7
  try clear hcz26_0
  try clear hcz26_1
  try clear hcz26_2
  try clear hcz26_3
  try clear hcz26_4
  try clear hcz26_5
  try clear hcz26_6
  try clear hcz26_7
  try clear hcz27_0
  try clear hcz27_1
  try clear hcz27_2
  try clear hcz27_3
  try clear hcz27_4
  try clear hcz27_5
  try clear hcz27_6
  try clear hcz27_7
  try clear hcz29_0
  try clear hcz29_1
  try clear hcz29_2
  try clear hcz29_3
  try clear hcz29_4
  try clear hcz29_5
  try clear hcz29_6
  try clear hcz29_7
  try clear hcz30_0
  try clear hcz30_1
  try clear hcz30_2
  try clear hcz30_3
  try clear hcz30_4
  try clear hcz30_5
  try clear hcz30_6
  try clear hcz30_7
  try clear hcz32_0
  try clear hcz32_1
  try clear hcz32_2
  try clear hcz32_3
  try clear hcz32_4
  try clear hcz32_5
  try clear hcz32_6
  try clear hcz32_7
  try clear hcz33_0
  try clear hcz33_1
  try clear hcz33_2
  try clear hcz33_3
  try clear hcz33_4
  try clear hcz33_5
  try clear hcz33_6
  try clear hcz33_7
  try clear hcz35_0
  try clear hcz35_1
  try clear hcz35_2
  try clear hcz35_3
  try clear hcz35_4
  try clear hcz35_5
  try clear hcz35_6
  try clear hcz35_7
  try clear hcz36_0
  try clear hcz36_1
  try clear hcz36_2
  try clear hcz36_3
  try clear hcz36_4
  try clear hcz36_5
  try clear hcz36_6
  try clear hcz36_7
  try clear hcz39_0
  try clear hcz39_1
  try clear hcz39_2
  try clear hcz39_3
  try clear hcz39_4
  try clear hcz39_5
  try clear hcz39_6
  try clear hcz39_7
  try clear hcz40_0
  try clear hcz40_1
  try clear hcz40_2
  try clear hcz40_3
  try clear hcz40_4
  try clear hcz40_5
  try clear hcz40_6
  try clear hcz40_7
  try clear hcz9_0
  try clear hcz9_1
  try clear hcz9_2
  try clear hcz9_3
  try clear hcz9_4
  try clear hcz9_5
  try clear hcz9_6
  try clear hcz9_7
  try clear hfz10_0
  try clear hfz10_1
  try clear hfz10_2
  try clear hfz10_3
  try clear hfz10_4
  try clear hfz10_5
  try clear hfz10_6
  try clear hfz10_7
  try clear hfz17_0
  try clear hfz17_1
  try clear hfz17_2
  try clear hfz17_3
  try clear hfz17_4
  try clear hfz17_5
  try clear hfz17_6
  try clear hfz17_7
  try clear hfz18_0
  try clear hfz18_1
  try clear hfz18_2
  try clear hfz18_3
  try clear hfz18_4
  try clear hfz18_5
  try clear hfz18_6
  try clear hfz18_7
  try clear hfz20_0
  try clear hfz20_1
  try clear hfz20_2
  try clear hfz20_3
  try clear hfz20_4
  try clear hfz20_5
  try clear hfz20_6
  try clear hfz20_7
  try clear hfz21_0
  try clear hfz21_1
  try clear hfz21_2
  try clear hfz21_3
  try clear hfz21_4
  try clear hfz21_5
  try clear hfz21_6
  try clear hfz21_7
  try clear hfz23_0
  try clear hfz23_1
  try clear hfz23_2
  try clear hfz23_3
  try clear hfz23_4
  try clear hfz23_5
  try clear hfz23_6
  try clear hfz23_7
  try clear hfz24_0
  try clear hfz24_1
  try clear hfz24_2
  try clear hfz24_3
  try clear hfz24_4
  try clear hfz24_5
  try clear hfz24_6
  try clear hfz24_7
  try clear hfz26_0
  try clear hfz26_1
  try clear hfz26_2
  try clear hfz26_3
  try clear hfz26_4
  try clear hfz26_5
  try clear hfz26_6
  try clear hfz26_7
  try clear hfz27_0
  try clear hfz27_1
  try clear hfz27_2
  try clear hfz27_3
  try clear hfz27_4
  try clear hfz27_5
  try clear hfz27_6
  try clear hfz27_7
  try clear hfz29_0
  try clear hfz29_1
  try clear hfz29_2
  try clear hfz29_3
  try clear hfz29_4
  try clear hfz29_5
  try clear hfz29_6
  try clear hfz29_7
  try clear hfz30_0
  try clear hfz30_1
  try clear hfz30_2
  try clear hfz30_3
  try clear hfz30_4
  try clear hfz30_5
  try clear hfz30_6
  try clear hfz30_7
  try clear hfz32_0
  try clear hfz32_1
  try clear hfz32_2
  try clear hfz32_3
  try clear hfz32_4
  try clear hfz32_5
  try clear hfz32_6
  try clear hfz32_7
  try clear hfz33_0
  try clear hfz33_1
  try clear hfz33_2
  try clear hfz33_3
  try clear hfz33_4
  try clear hfz33_5
  try clear hfz33_6
  try clear hfz33_7
  try clear hfz35_0
  try clear hfz35_1
  try clear hfz35_2
  try clear hfz35_3
  try clear hfz35_4
  try clear hfz35_5
  try clear hfz35_6
  try clear hfz35_7
  try clear hfz36_0
  try clear hfz36_1
  try clear hfz36_2
  try clear hfz36_3
  try clear hfz36_4
  try clear hfz36_5
  try clear hfz36_6
  try clear hfz36_7
  try clear hfz39_0
  try clear hfz39_1
  try clear hfz39_2
  try clear hfz39_3
  try clear hfz39_4
  try clear hfz39_5
  try clear hfz39_6
  try clear hfz39_7
  try clear hfz40_0
  try clear hfz40_1
  try clear hfz40_2
  try clear hfz40_3
  try clear hfz40_4
  try clear hfz40_5
  try clear hfz40_6
  try clear hfz40_7
  try clear hfz9_0
  try clear hfz9_1
  try clear hfz9_2
  try clear hfz9_3
  try clear hfz9_4
  try clear hfz9_5
  try clear hfz9_6
  try clear hfz9_7
  obtain ⟨kq, x49_2, rfl, HA, HJ2, BK402, BK403, HB⟩ := hcut
  cases kq with
  | zero => exact absurd HA.out (by simp [erratumlaw00_SameTree.j0])
  | succ kj2 =>
   have H := HA.out
   clear HA
   simp only [erratumlaw00_SameTree.j0] at H
   by_cases c41 : x49_2 = true
   ·subst c41
    have H1 : (some false) = some r := by rw [if_pos rfl] at H; exact H
    clear H
    have H := H1
    clear H1
    obtain rfl := Option.some.inj H
    go_wp2
    go_ret
    exact ⟨by first | rfl | (simp [errW_none, errW_some] <;> rfl) | (simp [*, errW_none, errW_some] <;> rfl), by repeat (first | (with_reducible first | exact HB.out | apply below_alloc | apply pw_below_drewN | apply below_drew1 | refine below_set ?_ GE402.out | refine below_set ?_ GE403.out) | exact HB.out)⟩
   replace c41 := Bool.eq_false_iff.mpr c41
   subst c41
   have H1 : (erratumlaw00_SameTree.l0 kj2 0 a0_0 a0_1 a0_2 l0_3 a0_4 a0_5 l0_6 l0_7 a1_0 a1_1 a1_2 l1_3 a1_4 a1_5 l1_6 l1_7) = some r := by rw [if_neg (show ¬ (false = true) by decide)] at H; exact H
   clear H
   have H := H1
   clear H1
   have H' := Aside0.mk H
   clear H
   go_wp2
   go_loopg [5] kj2 (fun kq v5 w' => ∃ (x5_2 : Int), v5 = .int .i64 x5_2 ∧ Aside0 (erratumlaw00_SameTree.l0 kq x5_2 a0_0 a0_1 a0_2 l0_3 a0_4 a0_5 l0_6 l0_7 a1_0 a1_1 a1_2 l1_3 a1_4 a1_5 l1_6 l1_7 = some r) ∧ Aside0 (kq ≤ kj2) ∧ Aside0 (w'.heap[gb402]? = some (.cells #[.int .i64 a0_0, .bool a0_1, .bool a0_2, (.slice A0_3 l0_3.length c0_3), .int .i64 a0_4, .string a0_5, (.slice A0_6 l0_6.length c0_6), (.slice A0_7 l0_7.length c0_7)] 50 (0, 0))) ∧ Aside0 (w'.heap[gb403]? = some (.cells #[.int .i64 a1_0, .bool a1_1, .bool a1_2, (.slice A1_3 l1_3.length c1_3), .int .i64 a1_4, .string a1_5, (.slice A1_6 l1_6.length c1_6), (.slice A1_7 l1_7.length c1_7)] 50 (0, 0))) ∧ Aside0 (Below w.heap.size w w'))
   case atStart => exact ⟨(0), (by first | rfl | (simp; done) | (simp [*]; done)), H', ⟨Nat.le_refl _⟩, ⟨by (with_reducible repeat (first | refine blk_drewN ?_ _ | refine blk_drew ?_ | refine blk_alloc ?_ _)); exact BK402.out⟩, ⟨by (with_reducible repeat (first | refine blk_drewN ?_ _ | refine blk_drew ?_ | refine blk_alloc ?_ _)); exact BK403.out⟩, ⟨by repeat (first | (with_reducible first | exact HB.out | apply below_alloc | apply pw_below_drewN | apply below_drew1 | refine below_set ?_ GE402.out | refine below_set ?_ GE403.out) | exact HB.out)⟩⟩
   case round =>
    clear H'
    try clear c6
    try clear c6b0
    try clear c6b1
    try clear c7
    try clear c7b0
    try clear c7b1
    try clear c7b2
    try clear c12
    try clear c13
    try clear c13b0
    try clear c13b1
    try clear c15
    try clear c41
    try clear hcz10_0
    try clear hcz10_1
    try clear hcz10_2
    try clear hcz10_3
    try clear hcz10_4
    try clear hcz10_5
    try clear hcz10_6
    try clear hcz10_7
    try clear hcz17_0
    try clear hcz17_1
    try clear hcz17_2
    try clear hcz17_3
    try clear hcz17_4
    try clear hcz17_5
    try clear hcz17_6
    try clear hcz17_7
    try clear hcz18_0
    try clear hcz18_1
    try clear hcz18_2
    try clear hcz18_3
    try clear hcz18_4
    try clear hcz18_5
    try clear hcz18_6
    try clear hcz18_7
    try clear hcz20_0
    try clear hcz20_1
    try clear hcz20_2
    try clear hcz20_3
    try clear hcz20_4
    try clear hcz20_5
    try clear hcz20_6
    try clear hcz20_7
    try clear hcz21_0
    try clear hcz21_1
    try clear hcz21_2
    try clear hcz21_3
    try clear hcz21_4
    try clear hcz21_5
    try clear hcz21_6
    try clear hcz21_7
    try clear hcz23_0
    try clear hcz23_1
    try clear hcz23_2
    try clear hcz23_3
    try clear hcz23_4
    try clear hcz23_5
    try clear hcz23_6
    try clear hcz23_7
    try clear hcz24_0
    try clear hcz24_1
    try clear hcz24_2
    try clear hcz24_3
    try clear hcz24_4
    try clear hcz24_5
    try clear hcz24_6
    try clear hcz24_7
    try clear hcz26_0
    try clear hcz26_1
    try clear hcz26_2
    try clear hcz26_3
    try clear hcz26_4
    try clear hcz26_5
    try clear hcz26_6
    try clear hcz26_7
    try clear hcz27_0
    try clear hcz27_1
    try clear hcz27_2
    try clear hcz27_3
    try clear hcz27_4
    try clear hcz27_5
    try clear hcz27_6
    try clear hcz27_7
    try clear hcz29_0
    try clear hcz29_1
    try clear hcz29_2
    try clear hcz29_3
    try clear hcz29_4
    try clear hcz29_5
    try clear hcz29_6
    try clear hcz29_7
    try clear hcz30_0
    try clear hcz30_1
    try clear hcz30_2
    try clear hcz30_3
    try clear hcz30_4
    try clear hcz30_5
    try clear hcz30_6
    try clear hcz30_7
    try clear hcz32_0
    try clear hcz32_1
    try clear hcz32_2
    try clear hcz32_3
    try clear hcz32_4
    try clear hcz32_5
    try clear hcz32_6
    try clear hcz32_7
    try clear hcz33_0
    try clear hcz33_1
    try clear hcz33_2
    try clear hcz33_3
    try clear hcz33_4
    try clear hcz33_5
    try clear hcz33_6
    try clear hcz33_7
    try clear hcz35_0
    try clear hcz35_1
    try clear hcz35_2
    try clear hcz35_3
    try clear hcz35_4
    try clear hcz35_5
    try clear hcz35_6
    try clear hcz35_7
    try clear hcz36_0
    try clear hcz36_1
    try clear hcz36_2
    try clear hcz36_3
    try clear hcz36_4
    try clear hcz36_5
    try clear hcz36_6
    try clear hcz36_7
    try clear hcz39_0
    try clear hcz39_1
    try clear hcz39_2
    try clear hcz39_3
    try clear hcz39_4
    try clear hcz39_5
    try clear hcz39_6
    try clear hcz39_7
    try clear hcz40_0
    try clear hcz40_1
    try clear hcz40_2
    try clear hcz40_3
    try clear hcz40_4
    try clear hcz40_5
    try clear hcz40_6
    try clear hcz40_7
    try clear hcz9_0
    try clear hcz9_1
    try clear hcz9_2
    try clear hcz9_3
    try clear hcz9_4
    try clear hcz9_5
    try clear hcz9_6
    try clear hcz9_7
    try clear hfz10_0
    try clear hfz10_1
    try clear hfz10_2
    try clear hfz10_3
    try clear hfz10_4
    try clear hfz10_5
    try clear hfz10_6
    try clear hfz10_7
    try clear hfz17_0
    try clear hfz17_1
    try clear hfz17_2
    try clear hfz17_3
    try clear hfz17_4
    try clear hfz17_5
    try clear hfz17_6
    try clear hfz17_7
    try clear hfz18_0
    try clear hfz18_1
    try clear hfz18_2
    try clear hfz18_3
    try clear hfz18_4
    try clear hfz18_5
    try clear hfz18_6
    try clear hfz18_7
    try clear hfz20_0
    try clear hfz20_1
    try clear hfz20_2
    try clear hfz20_3
    try clear hfz20_4
    try clear hfz20_5
    try clear hfz20_6
    try clear hfz20_7
    try clear hfz21_0
    try clear hfz21_1
    try clear hfz21_2
    try clear hfz21_3
    try clear hfz21_4
    try clear hfz21_5
    try clear hfz21_6
    try clear hfz21_7
    try clear hfz23_0
    try clear hfz23_1
    try clear hfz23_2
    try clear hfz23_3
    try clear hfz23_4
    try clear hfz23_5
    try clear hfz23_6
    try clear hfz23_7
    try clear hfz24_0
    try clear hfz24_1
    try clear hfz24_2
    try clear hfz24_3
    try clear hfz24_4
    try clear hfz24_5
    try clear hfz24_6
    try clear hfz24_7
    try clear hfz26_0
    try clear hfz26_1
    try clear hfz26_2
    try clear hfz26_3
    try clear hfz26_4
    try clear hfz26_5
    try clear hfz26_6
    try clear hfz26_7
    try clear hfz27_0
    try clear hfz27_1
    try clear hfz27_2
    try clear hfz27_3
    try clear hfz27_4
    try clear hfz27_5
    try clear hfz27_6
    try clear hfz27_7
    try clear hfz29_0
    try clear hfz29_1
    try clear hfz29_2
    try clear hfz29_3
    try clear hfz29_4
    try clear hfz29_5
    try clear hfz29_6
    try clear hfz29_7
    try clear hfz30_0
    try clear hfz30_1
    try clear hfz30_2
    try clear hfz30_3
    try clear hfz30_4
    try clear hfz30_5
    try clear hfz30_6
    try clear hfz30_7
    try clear hfz32_0
    try clear hfz32_1
    try clear hfz32_2
    try clear hfz32_3
    try clear hfz32_4
    try clear hfz32_5
    try clear hfz32_6
    try clear hfz32_7
    try clear hfz33_0
    try clear hfz33_1
    try clear hfz33_2
    try clear hfz33_3
    try clear hfz33_4
    try clear hfz33_5
    try clear hfz33_6
    try clear hfz33_7
    try clear hfz35_0
    try clear hfz35_1
    try clear hfz35_2
    try clear hfz35_3
    try clear hfz35_4
    try clear hfz35_5
    try clear hfz35_6
    try clear hfz35_7
    try clear hfz36_0
    try clear hfz36_1
    try clear hfz36_2
    try clear hfz36_3
    try clear hfz36_4
    try clear hfz36_5
    try clear hfz36_6
    try clear hfz36_7
    try clear hfz39_0
    try clear hfz39_1
    try clear hfz39_2
    try clear hfz39_3
    try clear hfz39_4
    try clear hfz39_5
    try clear hfz39_6
    try clear hfz39_7
    try clear hfz40_0
    try clear hfz40_1
    try clear hfz40_2
    try clear hfz40_3
    try clear hfz40_4
    try clear hfz40_5
    try clear hfz40_6
    try clear hfz40_7
    try clear hfz9_0
    try clear hfz9_1
    try clear hfz9_2
    try clear hfz9_3
    try clear hfz9_4
    try clear hfz9_5
    try clear hfz9_6
    try clear hfz9_7
    obtain ⟨x5_2, rfl, HA, HK2, BK402, BK403, HB⟩ := hrel
    cases gk with
    | zero => exact absurd HA.out (by simp [erratumlaw00_SameTree.l0])
    | succ k2 =>
     have H := HA.out
     clear HA
     simp only [erratumlaw00_SameTree.l0] at H
     by_cases c42 : x5_2 < (l0_7.length : Int)
     rotate_left
     ·rw [if_neg c42] at H
      have c42b0 : decide (x5_2 < (l0_7.length : Int)) = false := decide_eq_false c42
      clear c42
      obtain rfl := Option.some.inj H
      have hnb55 := NB402_403.out
      have hnc55 := NB403_402.out
      have hcz56_0 : wr.cell? ⟨gb402, 0, none⟩ = some (.int .i64 a0_0) := (blk_cell BK402.out 0).trans rfl
      have hcz56_1 : wr.cell? ⟨gb402, 1, none⟩ = some (.bool a0_1) := (blk_cell BK402.out 1).trans rfl
      have hcz56_2 : wr.cell? ⟨gb402, 2, none⟩ = some (.bool a0_2) := (blk_cell BK402.out 2).trans rfl
      have hcz56_3 : wr.cell? ⟨gb402, 3, none⟩ = some (.slice A0_3 l0_3.length c0_3) := (blk_cell BK402.out 3).trans rfl
      have hcz56_4 : wr.cell? ⟨gb402, 4, none⟩ = some (.int .i64 a0_4) := (blk_cell BK402.out 4).trans rfl
      have hcz56_5 : wr.cell? ⟨gb402, 5, none⟩ = some (.string a0_5) := (blk_cell BK402.out 5).trans rfl
      have hcz56_6 : wr.cell? ⟨gb402, 6, none⟩ = some (.slice A0_6 l0_6.length c0_6) := (blk_cell BK402.out 6).trans rfl
      have hcz56_7 : wr.cell? ⟨gb402, 7, none⟩ = some (.slice A0_7 l0_7.length c0_7) := (blk_cell BK402.out 7).trans rfl
      have hfz56_0 := blk_frozen BK402.out 0
      have hfz56_1 := blk_frozen BK402.out 1
      have hfz56_2 := blk_frozen BK402.out 2
      have hfz56_3 := blk_frozen BK402.out 3
      have hfz56_4 := blk_frozen BK402.out 4
      have hfz56_5 := blk_frozen BK402.out 5
      have hfz56_6 := blk_frozen BK402.out 6
      have hfz56_7 := blk_frozen BK402.out 7
      go_wp2
      go_ret
      exact ⟨by first | rfl | (simp [errW_none, errW_some] <;> rfl) | (simp [*, errW_none, errW_some] <;> rfl), by repeat (first | (with_reducible first | exact HB.out | apply below_alloc | apply pw_below_drewN | apply below_drew1 | refine below_set ?_ GE402.out | refine below_set ?_ GE403.out) | exact HB.out)⟩
     rw [if_pos c42] at H
     have c42b0 : decide (x5_2 < (l0_7.length : Int)) = true := decide_eq_true c42
     clear c42
     by_cases c43 : 0 ≤ x5_2
     rotate_left
     ·rw [if_neg c43] at H
      exact absurd H (by simp)
     rw [if_pos c43] at H
     have c43b0 : decide (0 ≤ x5_2) = true := decide_eq_true c43
     clear c43
     by_cases c44 : x5_2 < (l1_7.length : Int)
     rotate_left
     ·rw [if_neg c44] at H
      exact absurd H (by simp)
     rw [if_pos c44] at H
     have c44b0 : decide (x5_2 < (l1_7.length : Int)) = true := decide_eq_true c44
     clear c44
     replace H := Option.bind_eq_some_iff.mp H
     obtain ⟨t408, A450, H⟩ := H
     replace H : (if t408 = true then (erratumlaw00_SameTree.l0 k2 (wrap64 (x5_2 + 1)) a0_0 a0_1 a0_2 l0_3 a0_4 a0_5 l0_6 l0_7 a1_0 a1_1 a1_2 l1_3 a1_4 a1_5 l1_6 l1_7) else (some false)) = some r := H
     have A45 := Aside0.mk A450
     clear A450
     by_cases c46 : t408 = true
     rotate_left
     ·replace c46 := Bool.eq_false_iff.mpr c46
      subst c46
      have H1 : (some false) = some r := by rw [if_neg (show ¬ (false = true) by decide)] at H; exact H
      clear H
      have H := H1
      clear H1
      obtain rfl := Option.some.inj H
      have hnb51 := NB402_403.out
      have hnc51 := NB403_402.out
      have hcz52_0 : wr.cell? ⟨gb402, 0, none⟩ = some (.int .i64 a0_0) := (blk_cell BK402.out 0).trans rfl
      have hcz52_1 : wr.cell? ⟨gb402, 1, none⟩ = some (.bool a0_1) := (blk_cell BK402.out 1).trans rfl
      have hcz52_2 : wr.cell? ⟨gb402, 2, none⟩ = some (.bool a0_2) := (blk_cell BK402.out 2).trans rfl
      have hcz52_3 : wr.cell? ⟨gb402, 3, none⟩ = some (.slice A0_3 l0_3.length c0_3) := (blk_cell BK402.out 3).trans rfl
      have hcz52_4 : wr.cell? ⟨gb402, 4, none⟩ = some (.int .i64 a0_4) := (blk_cell BK402.out 4).trans rfl
      have hcz52_5 : wr.cell? ⟨gb402, 5, none⟩ = some (.string a0_5) := (blk_cell BK402.out 5).trans rfl
      have hcz52_6 : wr.cell? ⟨gb402, 6, none⟩ = some (.slice A0_6 l0_6.length c0_6) := (blk_cell BK402.out 6).trans rfl
      have hcz52_7 : wr.cell? ⟨gb402, 7, none⟩ = some (.slice A0_7 l0_7.length c0_7) := (blk_cell BK402.out 7).trans rfl
      have hfz52_0 := blk_frozen BK402.out 0
      have hfz52_1 := blk_frozen BK402.out 1
      have hfz52_2 := blk_frozen BK402.out 2
      have hfz52_3 := blk_frozen BK402.out 3
      have hfz52_4 := blk_frozen BK402.out 4
      have hfz52_5 := blk_frozen BK402.out 5
      have hfz52_6 := blk_frozen BK402.out 6
      have hfz52_7 := blk_frozen BK402.out 7
      try go_wp2
      have n0_ := Aside0.mk (blk_drew BK402.out)
      have n1_ := Aside0.mk (blk_drew BK403.out)
      have n2_ := Aside0.mk (below_drew1 HB.out)
      clear BK402
      clear BK403
      clear HB
      have BK402 := n0_
      have BK403 := n1_
      have HB := n2_
      clear n0_ n1_ n2_
      have p406 : 0 ≤ (x5_2 : Int) := of_decide_eq_true (by first | (with_reducible assumption) | assumption)
      have q406 : x5_2 < (l0_7.length : Int) := of_decide_eq_true (by first | (with_reducible assumption) | assumption)
      obtain ⟨ad406, A406_3, c406_3, A406_6, c406_6, A406_7, c406_7, e406, hx406_0, hx406_1, hx406_2, hx406_3, hx406_4, hx406_5, hx406_6, hx406_7, hl406_3, hi406_3, hl406_6, hi406_6, hl406_7, hi406_7⟩ := at_T50 HR0_7.out x5_2 p406 q406
      have hw406_7 := hx406_7
      have hw406_6 := hx406_6
      have hw406_5 := hx406_5
      have hw406_4 := hx406_4
      have hw406_3 := hx406_3
      have hw406_2 := hx406_2
      have hw406_1 := hx406_1
      have hw406_0 := hx406_0
      cases e406
      replace hx406_0 := (HB.out.cell (World.block_lt_of_cell? w _ hx406_0)).trans hx406_0
      replace hx406_1 := (HB.out.cell (World.block_lt_of_cell? w _ hx406_1)).trans hx406_1
      replace hx406_2 := (HB.out.cell (World.block_lt_of_cell? w _ hx406_2)).trans hx406_2
      replace hx406_3 := (HB.out.cell (World.block_lt_of_cell? w _ hx406_3)).trans hx406_3
      replace hx406_4 := (HB.out.cell (World.block_lt_of_cell? w _ hx406_4)).trans hx406_4
      replace hx406_5 := (HB.out.cell (World.block_lt_of_cell? w _ hx406_5)).trans hx406_5
      replace hx406_6 := (HB.out.cell (World.block_lt_of_cell? w _ hx406_6)).trans hx406_6
      replace hx406_7 := (HB.out.cell (World.block_lt_of_cell? w _ hx406_7)).trans hx406_7
      have HR406_3 := Aside0.mk hi406_3
      have HC406_3 := Aside0.mk hl406_3
      clear hi406_3 hl406_3
      have HR406_6 := Aside0.mk hi406_6
      have HC406_6 := Aside0.mk hl406_6
      clear hi406_6 hl406_6
      have HR406_7 := Aside0.mk hi406_7
      have HC406_7 := Aside0.mk hl406_7
      clear hi406_7 hl406_7
      replace p406 := eq_true p406
      replace q406 := eq_true q406
      have p407 : 0 ≤ (x5_2 : Int) := of_decide_eq_true (by first | (with_reducible assumption) | assumption)
      have q407 : x5_2 < (l1_7.length : Int) := of_decide_eq_true (by first | (with_reducible assumption) | assumption)
      obtain ⟨ad407, A407_3, c407_3, A407_6, c407_6, A407_7, c407_7, e407, hx407_0, hx407_1, hx407_2, hx407_3, hx407_4, hx407_5, hx407_6, hx407_7, hl407_3, hi407_3, hl407_6, hi407_6, hl407_7, hi407_7⟩ := at_T50 HR1_7.out x5_2 p407 q407
      have hw407_7 := hx407_7
      have hw407_6 := hx407_6
      have hw407_5 := hx407_5
      have hw407_4 := hx407_4
      have hw407_3 := hx407_3
      have hw407_2 := hx407_2
      have hw407_1 := hx407_1
      have hw407_0 := hx407_0
      cases e407
      replace hx407_0 := (HB.out.cell (World.block_lt_of_cell? w _ hx407_0)).trans hx407_0
      replace hx407_1 := (HB.out.cell (World.block_lt_of_cell? w _ hx407_1)).trans hx407_1
      replace hx407_2 := (HB.out.cell (World.block_lt_of_cell? w _ hx407_2)).trans hx407_2
      replace hx407_3 := (HB.out.cell (World.block_lt_of_cell? w _ hx407_3)).trans hx407_3
      replace hx407_4 := (HB.out.cell (World.block_lt_of_cell? w _ hx407_4)).trans hx407_4
      replace hx407_5 := (HB.out.cell (World.block_lt_of_cell? w _ hx407_5)).trans hx407_5
      replace hx407_6 := (HB.out.cell (World.block_lt_of_cell? w _ hx407_6)).trans hx407_6
      replace hx407_7 := (HB.out.cell (World.block_lt_of_cell? w _ hx407_7)).trans hx407_7
      have HR407_3 := Aside0.mk hi407_3
      have HC407_3 := Aside0.mk hl407_3
      clear hi407_3 hl407_3
      have HR407_6 := Aside0.mk hi407_6
      have HC407_6 := Aside0.mk hl407_6
      clear hi407_6 hl407_6
      have HR407_7 := Aside0.mk hi407_7
      have HC407_7 := Aside0.mk hl407_7
      clear hi407_7 hl407_7
      replace p407 := eq_true p407
      replace q407 := eq_true q407
      refine start_ (n := 12) (S := fun w' => w'.cell? ⟨gb402, 0, none⟩ = some (.int .i64 a0_0) ∧ w'.cell? ⟨gb402, 1, none⟩ = some (.bool a0_1) ∧ w'.cell? ⟨gb402, 2, none⟩ = some (.bool a0_2) ∧ w'.cell? ⟨gb402, 3, none⟩ = some (.slice A0_3 l0_3.length c0_3) ∧ w'.cell? ⟨gb402, 4, none⟩ = some (.int .i64 a0_4) ∧ w'.cell? ⟨gb402, 5, none⟩ = some (.string a0_5) ∧ w'.cell? ⟨gb402, 6, none⟩ = some (.slice A0_6 l0_6.length c0_6) ∧ w'.cell? ⟨gb402, 7, none⟩ = some (.slice (some ad406) l0_7.length c0_7) ∧ w'.cell? ⟨gb403, 0, none⟩ = some (.int .i64 a1_0) ∧ w'.cell? ⟨gb403, 1, none⟩ = some (.bool a1_1) ∧ w'.cell? ⟨gb403, 2, none⟩ = some (.bool a1_2) ∧ w'.cell? ⟨gb403, 3, none⟩ = some (.slice A1_3 l1_3.length c1_3) ∧ w'.cell? ⟨gb403, 4, none⟩ = some (.int .i64 a1_4) ∧ w'.cell? ⟨gb403, 5, none⟩ = some (.string a1_5) ∧ w'.cell? ⟨gb403, 6, none⟩ = some (.slice A1_6 l1_6.length c1_6) ∧ w'.cell? ⟨gb403, 7, none⟩ = some (.slice (some ad407) l1_7.length c1_7) ∧ w'.cell? (ad406.add ((x5_2).toNat * 8)) = some (.int .i64 ((rd_T50 l0_7 x5_2).f0)) ∧ w'.cell? ⟨(ad406.add ((x5_2).toNat * 8)).block, (ad406.add ((x5_2).toNat * 8)).off + 1, none⟩ = some (.bool ((rd_T50 l0_7 x5_2).f1)) ∧ w'.cell? ⟨(ad406.add ((x5_2).toNat * 8)).block, (ad406.add ((x5_2).toNat * 8)).off + 2, none⟩ = some (.bool ((rd_T50 l0_7 x5_2).f2.f0)) ∧ w'.cell? ⟨(ad406.add ((x5_2).toNat * 8)).block, (ad406.add ((x5_2).toNat * 8)).off + 3, none⟩ = some (.slice A406_3 ((rd_T50 l0_7 x5_2).f2.f1).length c406_3) ∧ w'.cell? ⟨(ad406.add ((x5_2).toNat * 8)).block, (ad406.add ((x5_2).toNat * 8)).off + 4, none⟩ = some (.int .i64 ((rd_T50 l0_7 x5_2).f2.f2)) ∧ w'.cell? ⟨(ad406.add ((x5_2).toNat * 8)).block, (ad406.add ((x5_2).toNat * 8)).off + 5, none⟩ = some (.string ((rd_T50 l0_7 x5_2).f3)) ∧ w'.cell? ⟨(ad406.add ((x5_2).toNat * 8)).block, (ad406.add ((x5_2).toNat * 8)).off + 6, none⟩ = some (.slice A406_6 ((rd_T50 l0_7 x5_2).f4).length c406_6) ∧ w'.cell? ⟨(ad406.add ((x5_2).toNat * 8)).block, (ad406.add ((x5_2).toNat * 8)).off + 7, none⟩ = some (.slice A406_7 ((rd_T50 l0_7 x5_2).f5).length c406_7) ∧ w'.cell? (ad407.add ((x5_2).toNat * 8)) = some (.int .i64 ((rd_T50 l1_7 x5_2).f0)) ∧ w'.cell? ⟨(ad407.add ((x5_2).toNat * 8)).block, (ad407.add ((x5_2).toNat * 8)).off + 1, none⟩ = some (.bool ((rd_T50 l1_7 x5_2).f1)) ∧ w'.cell? ⟨(ad407.add ((x5_2).toNat * 8)).block, (ad407.add ((x5_2).toNat * 8)).off + 2, none⟩ = some (.bool ((rd_T50 l1_7 x5_2).f2.f0)) ∧ w'.cell? ⟨(ad407.add ((x5_2).toNat * 8)).block, (ad407.add ((x5_2).toNat * 8)).off + 3, none⟩ = some (.slice A407_3 ((rd_T50 l1_7 x5_2).f2.f1).length c407_3) ∧ w'.cell? ⟨(ad407.add ((x5_2).toNat * 8)).block, (ad407.add ((x5_2).toNat * 8)).off + 4, none⟩ = some (.int .i64 ((rd_T50 l1_7 x5_2).f2.f2)) ∧ w'.cell? ⟨(ad407.add ((x5_2).toNat * 8)).block, (ad407.add ((x5_2).toNat * 8)).off + 5, none⟩ = some (.string ((rd_T50 l1_7 x5_2).f3)) ∧ w'.cell? ⟨(ad407.add ((x5_2).toNat * 8)).block, (ad407.add ((x5_2).toNat * 8)).off + 6, none⟩ = some (.slice A407_6 ((rd_T50 l1_7 x5_2).f4).length c407_6) ∧ w'.cell? ⟨(ad407.add ((x5_2).toNat * 8)).block, (ad407.add ((x5_2).toNat * 8)).off + 7, none⟩ = some (.slice A407_7 ((rd_T50 l1_7 x5_2).f5).length c407_7)) (ds := []) #[Z, Z, Z, Z, Z, Z, Z, Z, Z, Z, Z, Z] (by kernel_rfl) rfl rfl ⟨(blk_cell BK402.out 0).trans rfl, (blk_cell BK402.out 1).trans rfl, (blk_cell BK402.out 2).trans rfl, (blk_cell BK402.out 3).trans rfl, (blk_cell BK402.out 4).trans rfl, (blk_cell BK402.out 5).trans rfl, (blk_cell BK402.out 6).trans rfl, (blk_cell BK402.out 7).trans rfl, (blk_cell BK403.out 0).trans rfl, (blk_cell BK403.out 1).trans rfl, (blk_cell BK403.out 2).trans rfl, (blk_cell BK403.out 3).trans rfl, (blk_cell BK403.out 4).trans rfl, (blk_cell BK403.out 5).trans rfl, (blk_cell BK403.out 6).trans rfl, (blk_cell BK403.out 7).trans rfl, ((HB.out.cell (World.block_lt_of_cell? w _ hw406_0)).trans hw406_0), ((HB.out.cell (World.block_lt_of_cell? w _ hw406_1)).trans hw406_1), ((HB.out.cell (World.block_lt_of_cell? w _ hw406_2)).trans hw406_2), ((HB.out.cell (World.block_lt_of_cell? w _ hw406_3)).trans hw406_3), ((HB.out.cell (World.block_lt_of_cell? w _ hw406_4)).trans hw406_4), ((HB.out.cell (World.block_lt_of_cell? w _ hw406_5)).trans hw406_5), ((HB.out.cell (World.block_lt_of_cell? w _ hw406_6)).trans hw406_6), ((HB.out.cell (World.block_lt_of_cell? w _ hw406_7)).trans hw406_7), ((HB.out.cell (World.block_lt_of_cell? w _ hw407_0)).trans hw407_0), ((HB.out.cell (World.block_lt_of_cell? w _ hw407_1)).trans hw407_1), ((HB.out.cell (World.block_lt_of_cell? w _ hw407_2)).trans hw407_2), ((HB.out.cell (World.block_lt_of_cell? w _ hw407_3)).trans hw407_3), ((HB.out.cell (World.block_lt_of_cell? w _ hw407_4)).trans hw407_4), ((HB.out.cell (World.block_lt_of_cell? w _ hw407_5)).trans hw407_5), ((HB.out.cell (World.block_lt_of_cell? w _ hw407_6)).trans hw407_6), ((HB.out.cell (World.block_lt_of_cell? w _ hw407_7)).trans hw407_7)⟩ (fun hHeld => ?_); refine with_tabW erratumlaw00_SameTree.tab6 erratumlaw00_SameTree.bits6 (fun HT_ HW_ => ?_)
      generalize wr.drew = w53 at BK402 BK403 HB HR406_3 HR406_6 HR406_7 HR407_3 HR407_6 HR407_7 hx406_0 hx406_1 hx406_2 hx406_3 hx406_4 hx406_5 hx406_6 hx406_7 hx407_0 hx407_1 hx407_2 hx407_3 hx407_4 hx407_5 hx407_6 hx407_7 hHeld ⊢
      refine pure_ (i := 0) (N := some 57) (v := ?_) (a' := ?_) #[Y, Z, Z, Z, Z, Z, Z, Z, Z, Z, Z, Z] rfl rfl (any_of HT_.out (by kernel_rfl)) (fun _ _ _ h => h) (Or.inl ⟨by rfl, ?_⟩) ?_ ?_
      rotate_left
      ·intro w'
       go_simp
       with_reducible rfl
      rotate_left
      ·simp only [Act.put, s0_, s1_, s2_, i64_w, i32_w]
       rfl
      refine pure_ (i := 2) (N := some 59) (v := ?_) (a' := ?_) #[Y, Z, Y, Z, Z, Z, Z, Z, Z, Z, Z, Z] rfl rfl (any_of HT_.out (by kernel_rfl)) (fun _ _ _ h => h) (Or.inl ⟨by rfl, ?_⟩) ?_ ?_
      rotate_left
      ·intro w'
       go_simp
       with_reducible rfl
      rotate_left
      ·simp only [Act.put, s0_, s1_, s2_, i64_w, i32_w]
       rfl
      refine pure_ (i := 5) (N := some 62) (v := ?_) (a' := ?_) #[Y, Z, Y, Z, Z, Y, Z, Z, Z, Z, Z, Z] rfl rfl (any_of HT_.out (by kernel_rfl)) (fun _ _ _ h => h) (Or.inl ⟨by rfl, ?_⟩) ?_ ?_
      rotate_left
      ·intro w'
       go_simp
       with_reducible rfl
      rotate_left
      ·simp only [Act.put, s0_, s1_, s2_, i64_w, i32_w]
       rfl
      refine pure_ (i := 7) (N := some 64) (v := ?_) (a' := ?_) #[Y, Z, Y, Z, Z, Y, Z, Y, Z, Z, Z, Z] rfl rfl (any_of HT_.out (by kernel_rfl)) (fun _ _ _ h => h) (Or.inl ⟨by rfl, ?_⟩) ?_ ?_
      rotate_left
      ·intro w'
       go_simp
       with_reducible rfl
      rotate_left
      ·simp only [Act.put, s0_, s1_, s2_, i64_w, i32_w]
       rfl
      refine take_ (i := 1) (N := some 58) (v := ?_) (a' := ?_) #[Y, Y, Y, Z, Z, Y, Z, Y, Z, Z, Z, Z] rfl rfl (take_ofW HT_.out HW_.out (by kernel_rfl)) (fun _ _ _ h => h) (Or.inl ⟨by rfl, ?_⟩) hHeld ?_ ?_
      rotate_left
      ·rintro w' ⟨s0, s1, s2, s3, s4, s5, s6, s7, s8, s9, s10, s11, s12, s13, s14, s15, s16, s17, s18, s19, s20, s21, s22, s23, s24, s25, s26, s27, s28, s29, s30, s31⟩
       go_simp
       with_reducible rfl
      rotate_left
      ·simp only [Act.put, s0_, s1_, s2_, i64_w, i32_w]
       rfl
      refine pure_ (i := 3) (N := some 60) (v := ?_) (a' := ?_) #[Y, Y, Y, Y, Z, Y, Z, Y, Z, Z, Z, Z] rfl rfl (any_of HT_.out (by kernel_rfl)) (fun _ _ _ h => h) (Or.inl ⟨by rfl, ?_⟩) ?_ ?_
      rotate_left
      ·intro w'
       go_simp
       with_reducible rfl
      rotate_left
      ·simp only [Act.put, s0_, s1_, s2_, i64_w, i32_w]
       rfl
      refine take_ (i := 4) (N := some 61) (v := ?_) (a' := ?_) #[Y, Y, Y, Y, Y, Y, Z, Y, Z, Z, Z, Z] rfl rfl (take_ofW HT_.out HW_.out (by kernel_rfl)) (fun _ _ _ h => h) (Or.inl ⟨by rfl, ?_⟩) hHeld ?_ ?_
      rotate_left
      ·rintro w' ⟨s0, s1, s2, s3, s4, s5, s6, s7, s8, s9, s10, s11, s12, s13, s14, s15, s16, s17, s18, s19, s20, s21, s22, s23, s24, s25, s26, s27, s28, s29, s30, s31⟩
       go_simp
       with_reducible rfl
      rotate_left
      ·simp only [Act.put, s0_, s1_, s2_, i64_w, i32_w]
       rfl
      refine take_ (i := 6) (N := some 63) (v := ?_) (a' := ?_) #[Y, Y, Y, Y, Y, Y, Y, Y, Z, Z, Z, Z] rfl rfl (take_ofW HT_.out HW_.out (by kernel_rfl)) (fun _ _ _ h => h) (Or.inl ⟨by rfl, ?_⟩) hHeld ?_ ?_
      rotate_left
      ·rintro w' ⟨s0, s1, s2, s3, s4, s5, s6, s7, s8, s9, s10, s11, s12, s13, s14, s15, s16, s17, s18, s19, s20, s21, s22, s23, s24, s25, s26, s27, s28, s29, s30, s31⟩
       go_simp
       with_reducible rfl
      rotate_left
      ·simp only [Act.put, s0_, s1_, s2_, i64_w, i32_w]
       rfl
      refine pure_ (i := 8) (N := some 65) (v := ?_) (a' := ?_) #[Y, Y, Y, Y, Y, Y, Y, Y, Y, Z, Z, Z] rfl rfl (any_of HT_.out (by kernel_rfl)) (fun _ _ _ h => h) (Or.inl ⟨by rfl, ?_⟩) ?_ ?_
      rotate_left
      ·intro w'
       go_simp
       with_reducible rfl
      rotate_left
      ·simp only [Act.put, s0_, s1_, s2_, i64_w, i32_w]
       rfl
      refine take_ (i := 9) (N := some 66) (v := ?_) (a' := ?_) #[Y, Y, Y, Y, Y, Y, Y, Y, Y, Y, Z, Z] rfl rfl (take_ofW HT_.out HW_.out (by kernel_rfl)) (fun _ _ _ h => h) (Or.inl ⟨by rfl, ?_⟩) hHeld ?_ ?_
      rotate_left
      ·rintro w' ⟨s0, s1, s2, s3, s4, s5, s6, s7, s8, s9, s10, s11, s12, s13, s14, s15, s16, s17, s18, s19, s20, s21, s22, s23, s24, s25, s26, s27, s28, s29, s30, s31⟩
       go_simp
       with_reducible rfl
      rotate_left
      ·simp only [Act.put, s0_, s1_, s2_, i64_w, i32_w]
       rfl
      refine one_ (i := 10) (N := some 67) #[Y, Y, Y, Y, Y, Y, Y, Y, Y, Y, Y, Z] rfl rfl (one_of HT_.out (by kernel_rfl)) (by decide) (fun K hK => ?_)
      refine goes_ Try.func32 (by kernel_rfl) rfl #[.agg #[.int .i64 ((rd_T50 l0_7 x5_2).f0), .bool ((rd_T50 l0_7 x5_2).f1), .bool ((rd_T50 l0_7 x5_2).f2.f0), .slice A406_3 ((rd_T50 l0_7 x5_2).f2.f1).length c406_3, .int .i64 ((rd_T50 l0_7 x5_2).f2.f2), .string ((rd_T50 l0_7 x5_2).f3), .slice A406_6 ((rd_T50 l0_7 x5_2).f4).length c406_6, .slice A406_7 ((rd_T50 l0_7 x5_2).f5).length c406_7], .agg #[.int .i64 ((rd_T50 l1_7 x5_2).f0), .bool ((rd_T50 l1_7 x5_2).f1), .bool ((rd_T50 l1_7 x5_2).f2.f0), .slice A407_3 ((rd_T50 l1_7 x5_2).f2.f1).length c407_3, .int .i64 ((rd_T50 l1_7 x5_2).f2.f2), .string ((rd_T50 l1_7 x5_2).f3), .slice A407_6 ((rd_T50 l1_7 x5_2).f4).length c407_6, .slice A407_7 ((rd_T50 l1_7 x5_2).f5).length c407_7]] (by rfl) rfl rfl (by (try simp only [List.map_toArray, List.map_cons, List.map_nil]); first | done | rfl | (simp only [List.length_drop, List.length_take]; rfl)) ?_
      with_reducible refine (ih k2 (by have := HJ2.out; have := HK2.out; omega) ((rd_T50 l0_7 x5_2).f0) ((rd_T50 l0_7 x5_2).f1) ((rd_T50 l0_7 x5_2).f2.f0) _ _ ((rd_T50 l0_7 x5_2).f2.f1) ((rd_T50 l0_7 x5_2).f2.f2) ((rd_T50 l0_7 x5_2).f3) _ _ ((rd_T50 l0_7 x5_2).f4) _ _ ((rd_T50 l0_7 x5_2).f5) ((rd_T50 l1_7 x5_2).f0) ((rd_T50 l1_7 x5_2).f1) ((rd_T50 l1_7 x5_2).f2.f0) _ _ ((rd_T50 l1_7 x5_2).f2.f1) ((rd_T50 l1_7 x5_2).f2.f2) ((rd_T50 l1_7 x5_2).f3) _ _ ((rd_T50 l1_7 x5_2).f4) _ _ ((rd_T50 l1_7 x5_2).f5) false _ ?side1 ?side2 ?side3 ?side4 ?side5 ?side6 ?side7 ?side8 ?side9 ?side10 ?side11 ?side12 A45.out).mono ?_
      (case side1 => repeat (first | exact (Kd.C_below HR406_3.out HB.out) | (with_reducible refine Kd.C_alloc ?_ _) | (with_reducible refine Kd.C_drewN ?_ _) | (with_reducible refine Kd.C_drew ?_)))
      (case side2 => exact HC406_3.out)
      (case side3 => repeat (first | exact (Kd.C_below HR406_6.out HB.out) | (with_reducible refine Kd.C_alloc ?_ _) | (with_reducible refine Kd.C_drewN ?_ _) | (with_reducible refine Kd.C_drew ?_)))
      (case side4 => exact HC406_6.out)
      (case side5 => repeat (first | exact (Kd.C_below HR406_7.out HB.out) | (with_reducible refine Kd.C_alloc ?_ _) | (with_reducible refine Kd.C_drewN ?_ _) | (with_reducible refine Kd.C_drew ?_)))
      (case side6 => exact HC406_7.out)
      (case side7 => repeat (first | exact (Kd.C_below HR407_3.out HB.out) | (with_reducible refine Kd.C_alloc ?_ _) | (with_reducible refine Kd.C_drewN ?_ _) | (with_reducible refine Kd.C_drew ?_)))
      (case side8 => exact HC407_3.out)
      (case side9 => repeat (first | exact (Kd.C_below HR407_6.out HB.out) | (with_reducible refine Kd.C_alloc ?_ _) | (with_reducible refine Kd.C_drewN ?_ _) | (with_reducible refine Kd.C_drew ?_)))
      (case side10 => exact HC407_6.out)
      (case side11 => repeat (first | exact (Kd.C_below HR407_7.out HB.out) | (with_reducible refine Kd.C_alloc ?_ _) | (with_reducible refine Kd.C_drewN ?_ _) | (with_reducible refine Kd.C_drew ?_)))
      (case side12 => exact HC407_7.out)
      rintro e w54 ⟨rfl, hb⟩
      refine ⟨_, rfl, ?_⟩
      have n0_ := Aside0.mk (blk_below (g := gb402) (o := .cells #[.int .i64 a0_0, .bool a0_1, .bool a0_2, .slice A0_3 l0_3.length c0_3, .int .i64 a0_4, .string a0_5, .slice A0_6 l0_6.length c0_6, .slice (some ad406) l0_7.length c0_7] 50 (0, 0)) (by (with_reducible repeat (first | refine blk_drewN ?_ _ | refine blk_drew ?_ | refine blk_alloc ?_ _)); exact BK402.out) hb)
      have n1_ := Aside0.mk (blk_below (g := gb403) (o := .cells #[.int .i64 a1_0, .bool a1_1, .bool a1_2, .slice A1_3 l1_3.length c1_3, .int .i64 a1_4, .string a1_5, .slice A1_6 l1_6.length c1_6, .slice (some ad407) l1_7.length c1_7] 50 (0, 0)) (by (with_reducible repeat (first | refine blk_drewN ?_ _ | refine blk_drew ?_ | refine blk_alloc ?_ _)); exact BK403.out) hb)
      have n2_ := Aside0.mk (below_step (by repeat (first | (with_reducible first | exact HB.out | apply below_alloc | apply pw_below_drewN | apply below_drew1 | refine below_set ?_ GE402.out | refine below_set ?_ GE403.out) | exact HB.out)) hb)
      clear BK402
      clear BK403
      clear HB
      have BK402 := n0_
      have BK403 := n1_
      have HB := n2_
      clear n0_ n1_ n2_
      (try clear hb)
      (try clear hb2)
      (try clear hk)
      (try clear hi)
      refine hK.out _ _ ⟨(blk_cell BK402.out 0).trans rfl, (blk_cell BK402.out 1).trans rfl, (blk_cell BK402.out 2).trans rfl, (blk_cell BK402.out 3).trans rfl, (blk_cell BK402.out 4).trans rfl, (blk_cell BK402.out 5).trans rfl, (blk_cell BK402.out 6).trans rfl, (blk_cell BK402.out 7).trans rfl, (blk_cell BK403.out 0).trans rfl, (blk_cell BK403.out 1).trans rfl, (blk_cell BK403.out 2).trans rfl, (blk_cell BK403.out 3).trans rfl, (blk_cell BK403.out 4).trans rfl, (blk_cell BK403.out 5).trans rfl, (blk_cell BK403.out 6).trans rfl, (blk_cell BK403.out 7).trans rfl, ((HB.out.cell (World.block_lt_of_cell? w _ hw406_0)).trans hw406_0), ((HB.out.cell (World.block_lt_of_cell? w _ hw406_1)).trans hw406_1), ((HB.out.cell (World.block_lt_of_cell? w _ hw406_2)).trans hw406_2), ((HB.out.cell (World.block_lt_of_cell? w _ hw406_3)).trans hw406_3), ((HB.out.cell (World.block_lt_of_cell? w _ hw406_4)).trans hw406_4), ((HB.out.cell (World.block_lt_of_cell? w _ hw406_5)).trans hw406_5), ((HB.out.cell (World.block_lt_of_cell? w _ hw406_6)).trans hw406_6), ((HB.out.cell (World.block_lt_of_cell? w _ hw406_7)).trans hw406_7), ((HB.out.cell (World.block_lt_of_cell? w _ hw407_0)).trans hw407_0), ((HB.out.cell (World.block_lt_of_cell? w _ hw407_1)).trans hw407_1), ((HB.out.cell (World.block_lt_of_cell? w _ hw407_2)).trans hw407_2), ((HB.out.cell (World.block_lt_of_cell? w _ hw407_3)).trans hw407_3), ((HB.out.cell (World.block_lt_of_cell? w _ hw407_4)).trans hw407_4), ((HB.out.cell (World.block_lt_of_cell? w _ hw407_5)).trans hw407_5), ((HB.out.cell (World.block_lt_of_cell? w _ hw407_6)).trans hw407_6), ((HB.out.cell (World.block_lt_of_cell? w _ hw407_7)).trans hw407_7)⟩ (fun hHeld => ?_)
      clear hK K
      refine norm_ (a' := ?_) ?_ ?_
      rotate_left
      ·show Act.put _ (some 67) _ = _
       simp only [Act.put, s0_, s1_, s2_, i64_w, i32_w]
       rfl
      refine pure_ (i := 11) (N := some 68) (v := ?_) (a' := ?_) #[Y, Y, Y, Y, Y, Y, Y, Y, Y, Y, Y, Y] rfl rfl (any_of HT_.out (by kernel_rfl)) (fun _ _ _ h => h) (Or.inl ⟨by rfl, ?_⟩) ?_ ?_
      rotate_left
      ·intro w'
       go_simp
       with_reducible rfl
      rotate_left
      ·simp only [Act.put, s0_, s1_, s2_, i64_w, i32_w]
       rfl
      refine done_ (done_of HT_.out (by kernel_rfl)) ?_
      try go_wp2
      go_ret
      exact ⟨by first | rfl | (simp [errW_none, errW_some] <;> rfl) | (simp [*, errW_none, errW_some] <;> rfl), by repeat (first | (with_reducible first | exact HB.out | apply below_alloc | apply pw_below_drewN | apply below_drew1 | refine below_set ?_ GE402.out | refine below_set ?_ GE403.out) | exact HB.out)⟩
     subst c46
     have H1 : (erratumlaw00_SameTree.l0 k2 (wrap64 (x5_2 + 1)) a0_0 a0_1 a0_2 l0_3 a0_4 a0_5 l0_6 l0_7 a1_0 a1_1 a1_2 l1_3 a1_4 a1_5 l1_6 l1_7) = some r := by rw [if_pos rfl] at H; exact H
     clear H
     have H := H1
     clear H1
     have H' := Aside0.mk H
     clear H
     have hnb47 := NB402_403.out
     have hnc47 := NB403_402.out
     have hcz48_0 : wr.cell? ⟨gb402, 0, none⟩ = some (.int .i64 a0_0) := (blk_cell BK402.out 0).trans rfl
     have hcz48_1 : wr.cell? ⟨gb402, 1, none⟩ = some (.bool a0_1) := (blk_cell BK402.out 1).trans rfl
     have hcz48_2 : wr.cell? ⟨gb402, 2, none⟩ = some (.bool a0_2) := (blk_cell BK402.out 2).trans rfl
     have hcz48_3 : wr.cell? ⟨gb402, 3, none⟩ = some (.slice A0_3 l0_3.length c0_3) := (blk_cell BK402.out 3).trans rfl
     have hcz48_4 : wr.cell? ⟨gb402, 4, none⟩ = some (.int .i64 a0_4) := (blk_cell BK402.out 4).trans rfl
     have hcz48_5 : wr.cell? ⟨gb402, 5, none⟩ = some (.string a0_5) := (blk_cell BK402.out 5).trans rfl
     have hcz48_6 : wr.cell? ⟨gb402, 6, none⟩ = some (.slice A0_6 l0_6.length c0_6) := (blk_cell BK402.out 6).trans rfl
     have hcz48_7 : wr.cell? ⟨gb402, 7, none⟩ = some (.slice A0_7 l0_7.length c0_7) := (blk_cell BK402.out 7).trans rfl
     have hfz48_0 := blk_frozen BK402.out 0
     have hfz48_1 := blk_frozen BK402.out 1
     have hfz48_2 := blk_frozen BK402.out 2
     have hfz48_3 := blk_frozen BK402.out 3
     have hfz48_4 := blk_frozen BK402.out 4
     have hfz48_5 := blk_frozen BK402.out 5
     have hfz48_6 := blk_frozen BK402.out 6
     have hfz48_7 := blk_frozen BK402.out 7
     try go_wp2
     have n0_ := Aside0.mk (blk_drew BK402.out)
     have n1_ := Aside0.mk (blk_drew BK403.out)
     have n2_ := Aside0.mk (below_drew1 HB.out)
     clear BK402
     clear BK403
     clear HB
     have BK402 := n0_
     have BK403 := n1_
     have HB := n2_
     clear n0_ n1_ n2_
     have p406 : 0 ≤ (x5_2 : Int) := of_decide_eq_true (by first | (with_reducible assumption) | assumption)
     have q406 : x5_2 < (l0_7.length : Int) := of_decide_eq_true (by first | (with_reducible assumption) | assumption)
     obtain ⟨ad406, A406_3, c406_3, A406_6, c406_6, A406_7, c406_7, e406, hx406_0, hx406_1, hx406_2, hx406_3, hx406_4, hx406_5, hx406_6, hx406_7, hl406_3, hi406_3, hl406_6, hi406_6, hl406_7, hi406_7⟩ := at_T50 HR0_7.out x5_2 p406 q406
     have hw406_7 := hx406_7
     have hw406_6 := hx406_6
     have hw406_5 := hx406_5
     have hw406_4 := hx406_4
     have hw406_3 := hx406_3
     have hw406_2 := hx406_2
     have hw406_1 := hx406_1
     have hw406_0 := hx406_0
     cases e406
     replace hx406_0 := (HB.out.cell (World.block_lt_of_cell? w _ hx406_0)).trans hx406_0
     replace hx406_1 := (HB.out.cell (World.block_lt_of_cell? w _ hx406_1)).trans hx406_1
     replace hx406_2 := (HB.out.cell (World.block_lt_of_cell? w _ hx406_2)).trans hx406_2
     replace hx406_3 := (HB.out.cell (World.block_lt_of_cell? w _ hx406_3)).trans hx406_3
     replace hx406_4 := (HB.out.cell (World.block_lt_of_cell? w _ hx406_4)).trans hx406_4
     replace hx406_5 := (HB.out.cell (World.block_lt_of_cell? w _ hx406_5)).trans hx406_5
     replace hx406_6 := (HB.out.cell (World.block_lt_of_cell? w _ hx406_6)).trans hx406_6
     replace hx406_7 := (HB.out.cell (World.block_lt_of_cell? w _ hx406_7)).trans hx406_7
     have HR406_3 := Aside0.mk hi406_3
     have HC406_3 := Aside0.mk hl406_3
     clear hi406_3 hl406_3
     have HR406_6 := Aside0.mk hi406_6
     have HC406_6 := Aside0.mk hl406_6
     clear hi406_6 hl406_6
     have HR406_7 := Aside0.mk hi406_7
     have HC406_7 := Aside0.mk hl406_7
     clear hi406_7 hl406_7
     replace p406 := eq_true p406
     replace q406 := eq_true q406
     have p407 : 0 ≤ (x5_2 : Int) := of_decide_eq_true (by first | (with_reducible assumption) | assumption)
     have q407 : x5_2 < (l1_7.length : Int) := of_decide_eq_true (by first | (with_reducible assumption) | assumption)
     obtain ⟨ad407, A407_3, c407_3, A407_6, c407_6, A407_7, c407_7, e407, hx407_0, hx407_1, hx407_2, hx407_3, hx407_4, hx407_5, hx407_6, hx407_7, hl407_3, hi407_3, hl407_6, hi407_6, hl407_7, hi407_7⟩ := at_T50 HR1_7.out x5_2 p407 q407
     have hw407_7 := hx407_7
     have hw407_6 := hx407_6
     have hw407_5 := hx407_5
     have hw407_4 := hx407_4
     have hw407_3 := hx407_3
     have hw407_2 := hx407_2
     have hw407_1 := hx407_1
     have hw407_0 := hx407_0
     cases e407
     replace hx407_0 := (HB.out.cell (World.block_lt_of_cell? w _ hx407_0)).trans hx407_0
     replace hx407_1 := (HB.out.cell (World.block_lt_of_cell? w _ hx407_1)).trans hx407_1
     replace hx407_2 := (HB.out.cell (World.block_lt_of_cell? w _ hx407_2)).trans hx407_2
     replace hx407_3 := (HB.out.cell (World.block_lt_of_cell? w _ hx407_3)).trans hx407_3
     replace hx407_4 := (HB.out.cell (World.block_lt_of_cell? w _ hx407_4)).trans hx407_4
     replace hx407_5 := (HB.out.cell (World.block_lt_of_cell? w _ hx407_5)).trans hx407_5
     replace hx407_6 := (HB.out.cell (World.block_lt_of_cell? w _ hx407_6)).trans hx407_6
     replace hx407_7 := (HB.out.cell (World.block_lt_of_cell? w _ hx407_7)).trans hx407_7
     have HR407_3 := Aside0.mk hi407_3
     have HC407_3 := Aside0.mk hl407_3
     clear hi407_3 hl407_3
     have HR407_6 := Aside0.mk hi407_6
     have HC407_6 := Aside0.mk hl407_6
     clear hi407_6 hl407_6
     have HR407_7 := Aside0.mk hi407_7
     have HC407_7 := Aside0.mk hl407_7
     clear hi407_7 hl407_7
     replace p407 := eq_true p407
     replace q407 := eq_true q407
     refine start_ (n := 12) (S := fun w' => w'.cell? ⟨gb402, 0, none⟩ = some (.int .i64 a0_0) ∧ w'.cell? ⟨gb402, 1, none⟩ = some (.bool a0_1) ∧ w'.cell? ⟨gb402, 2, none⟩ = some (.bool a0_2) ∧ w'.cell? ⟨gb402, 3, none⟩ = some (.slice A0_3 l0_3.length c0_3) ∧ w'.cell? ⟨gb402, 4, none⟩ = some (.int .i64 a0_4) ∧ w'.cell? ⟨gb402, 5, none⟩ = some (.string a0_5) ∧ w'.cell? ⟨gb402, 6, none⟩ = some (.slice A0_6 l0_6.length c0_6) ∧ w'.cell? ⟨gb402, 7, none⟩ = some (.slice (some ad406) l0_7.length c0_7) ∧ w'.cell? ⟨gb403, 0, none⟩ = some (.int .i64 a1_0) ∧ w'.cell? ⟨gb403, 1, none⟩ = some (.bool a1_1) ∧ w'.cell? ⟨gb403, 2, none⟩ = some (.bool a1_2) ∧ w'.cell? ⟨gb403, 3, none⟩ = some (.slice A1_3 l1_3.length c1_3) ∧ w'.cell? ⟨gb403, 4, none⟩ = some (.int .i64 a1_4) ∧ w'.cell? ⟨gb403, 5, none⟩ = some (.string a1_5) ∧ w'.cell? ⟨gb403, 6, none⟩ = some (.slice A1_6 l1_6.length c1_6) ∧ w'.cell? ⟨gb403, 7, none⟩ = some (.slice (some ad407) l1_7.length c1_7) ∧ w'.cell? (ad406.add ((x5_2).toNat * 8)) = some (.int .i64 ((rd_T50 l0_7 x5_2).f0)) ∧ w'.cell? ⟨(ad406.add ((x5_2).toNat * 8)).block, (ad406.add ((x5_2).toNat * 8)).off + 1, none⟩ = some (.bool ((rd_T50 l0_7 x5_2).f1)) ∧ w'.cell? ⟨(ad406.add ((x5_2).toNat * 8)).block, (ad406.add ((x5_2).toNat * 8)).off + 2, none⟩ = some (.bool ((rd_T50 l0_7 x5_2).f2.f0)) ∧ w'.cell? ⟨(ad406.add ((x5_2).toNat * 8)).block, (ad406.add ((x5_2).toNat * 8)).off + 3, none⟩ = some (.slice A406_3 ((rd_T50 l0_7 x5_2).f2.f1).length c406_3) ∧ w'.cell? ⟨(ad406.add ((x5_2).toNat * 8)).block, (ad406.add ((x5_2).toNat * 8)).off + 4, none⟩ = some (.int .i64 ((rd_T50 l0_7 x5_2).f2.f2)) ∧ w'.cell? ⟨(ad406.add ((x5_2).toNat * 8)).block, (ad406.add ((x5_2).toNat * 8)).off + 5, none⟩ = some (.string ((rd_T50 l0_7 x5_2).f3)) ∧ w'.cell? ⟨(ad406.add ((x5_2).toNat * 8)).block, (ad406.add ((x5_2).toNat * 8)).off + 6, none⟩ = some (.slice A406_6 ((rd_T50 l0_7 x5_2).f4).length c406_6) ∧ w'.cell? ⟨(ad406.add ((x5_2).toNat * 8)).block, (ad406.add ((x5_2).toNat * 8)).off + 7, none⟩ = some (.slice A406_7 ((rd_T50 l0_7 x5_2).f5).length c406_7) ∧ w'.cell? (ad407.add ((x5_2).toNat * 8)) = some (.int .i64 ((rd_T50 l1_7 x5_2).f0)) ∧ w'.cell? ⟨(ad407.add ((x5_2).toNat * 8)).block, (ad407.add ((x5_2).toNat * 8)).off + 1, none⟩ = some (.bool ((rd_T50 l1_7 x5_2).f1)) ∧ w'.cell? ⟨(ad407.add ((x5_2).toNat * 8)).block, (ad407.add ((x5_2).toNat * 8)).off + 2, none⟩ = some (.bool ((rd_T50 l1_7 x5_2).f2.f0)) ∧ w'.cell? ⟨(ad407.add ((x5_2).toNat * 8)).block, (ad407.add ((x5_2).toNat * 8)).off + 3, none⟩ = some (.slice A407_3 ((rd_T50 l1_7 x5_2).f2.f1).length c407_3) ∧ w'.cell? ⟨(ad407.add ((x5_2).toNat * 8)).block, (ad407.add ((x5_2).toNat * 8)).off + 4, none⟩ = some (.int .i64 ((rd_T50 l1_7 x5_2).f2.f2)) ∧ w'.cell? ⟨(ad407.add ((x5_2).toNat * 8)).block, (ad407.add ((x5_2).toNat * 8)).off + 5, none⟩ = some (.string ((rd_T50 l1_7 x5_2).f3)) ∧ w'.cell? ⟨(ad407.add ((x5_2).toNat * 8)).block, (ad407.add ((x5_2).toNat * 8)).off + 6, none⟩ = some (.slice A407_6 ((rd_T50 l1_7 x5_2).f4).length c407_6) ∧ w'.cell? ⟨(ad407.add ((x5_2).toNat * 8)).block, (ad407.add ((x5_2).toNat * 8)).off + 7, none⟩ = some (.slice A407_7 ((rd_T50 l1_7 x5_2).f5).length c407_7)) (ds := []) #[Z, Z, Z, Z, Z, Z, Z, Z, Z, Z, Z, Z] (by kernel_rfl) rfl rfl ⟨(blk_cell BK402.out 0).trans rfl, (blk_cell BK402.out 1).trans rfl, (blk_cell BK402.out 2).trans rfl, (blk_cell BK402.out 3).trans rfl, (blk_cell BK402.out 4).trans rfl, (blk_cell BK402.out 5).trans rfl, (blk_cell BK402.out 6).trans rfl, (blk_cell BK402.out 7).trans rfl, (blk_cell BK403.out 0).trans rfl, (blk_cell BK403.out 1).trans rfl, (blk_cell BK403.out 2).trans rfl, (blk_cell BK403.out 3).trans rfl, (blk_cell BK403.out 4).trans rfl, (blk_cell BK403.out 5).trans rfl, (blk_cell BK403.out 6).trans rfl, (blk_cell BK403.out 7).trans rfl, ((HB.out.cell (World.block_lt_of_cell? w _ hw406_0)).trans hw406_0), ((HB.out.cell (World.block_lt_of_cell? w _ hw406_1)).trans hw406_1), ((HB.out.cell (World.block_lt_of_cell? w _ hw406_2)).trans hw406_2), ((HB.out.cell (World.block_lt_of_cell? w _ hw406_3)).trans hw406_3), ((HB.out.cell (World.block_lt_of_cell? w _ hw406_4)).trans hw406_4), ((HB.out.cell (World.block_lt_of_cell? w _ hw406_5)).trans hw406_5), ((HB.out.cell (World.block_lt_of_cell? w _ hw406_6)).trans hw406_6), ((HB.out.cell (World.block_lt_of_cell? w _ hw406_7)).trans hw406_7), ((HB.out.cell (World.block_lt_of_cell? w _ hw407_0)).trans hw407_0), ((HB.out.cell (World.block_lt_of_cell? w _ hw407_1)).trans hw407_1), ((HB.out.cell (World.block_lt_of_cell? w _ hw407_2)).trans hw407_2), ((HB.out.cell (World.block_lt_of_cell? w _ hw407_3)).trans hw407_3), ((HB.out.cell (World.block_lt_of_cell? w _ hw407_4)).trans hw407_4), ((HB.out.cell (World.block_lt_of_cell? w _ hw407_5)).trans hw407_5), ((HB.out.cell (World.block_lt_of_cell? w _ hw407_6)).trans hw407_6), ((HB.out.cell (World.block_lt_of_cell? w _ hw407_7)).trans hw407_7)⟩ (fun hHeld => ?_); refine with_tabW erratumlaw00_SameTree.tab6 erratumlaw00_SameTree.bits6 (fun HT_ HW_ => ?_)
     generalize wr.drew = w49 at BK402 BK403 HB HR406_3 HR406_6 HR406_7 HR407_3 HR407_6 HR407_7 hx406_0 hx406_1 hx406_2 hx406_3 hx406_4 hx406_5 hx406_6 hx406_7 hx407_0 hx407_1 hx407_2 hx407_3 hx407_4 hx407_5 hx407_6 hx407_7 hHeld ⊢
     refine pure_ (i := 0) (N := some 57) (v := ?_) (a' := ?_) #[Y, Z, Z, Z, Z, Z, Z, Z, Z, Z, Z, Z] rfl rfl (any_of HT_.out (by kernel_rfl)) (fun _ _ _ h => h) (Or.inl ⟨by rfl, ?_⟩) ?_ ?_
     rotate_left
     ·intro w'
      go_simp
      with_reducible rfl
     rotate_left
     ·simp only [Act.put, s0_, s1_, s2_, i64_w, i32_w]
      rfl
     refine pure_ (i := 2) (N := some 59) (v := ?_) (a' := ?_) #[Y, Z, Y, Z, Z, Z, Z, Z, Z, Z, Z, Z] rfl rfl (any_of HT_.out (by kernel_rfl)) (fun _ _ _ h => h) (Or.inl ⟨by rfl, ?_⟩) ?_ ?_
     rotate_left
     ·intro w'
      go_simp
      with_reducible rfl
     rotate_left
     ·simp only [Act.put, s0_, s1_, s2_, i64_w, i32_w]
      rfl
     refine pure_ (i := 5) (N := some 62) (v := ?_) (a' := ?_) #[Y, Z, Y, Z, Z, Y, Z, Z, Z, Z, Z, Z] rfl rfl (any_of HT_.out (by kernel_rfl)) (fun _ _ _ h => h) (Or.inl ⟨by rfl, ?_⟩) ?_ ?_
     rotate_left
     ·intro w'
      go_simp
      with_reducible rfl
     rotate_left
     ·simp only [Act.put, s0_, s1_, s2_, i64_w, i32_w]
      rfl
     refine pure_ (i := 7) (N := some 64) (v := ?_) (a' := ?_) #[Y, Z, Y, Z, Z, Y, Z, Y, Z, Z, Z, Z] rfl rfl (any_of HT_.out (by kernel_rfl)) (fun _ _ _ h => h) (Or.inl ⟨by rfl, ?_⟩) ?_ ?_
     rotate_left
     ·intro w'
      go_simp
      with_reducible rfl
     rotate_left
     ·simp only [Act.put, s0_, s1_, s2_, i64_w, i32_w]
      rfl
     refine take_ (i := 1) (N := some 58) (v := ?_) (a' := ?_) #[Y, Y, Y, Z, Z, Y, Z, Y, Z, Z, Z, Z] rfl rfl (take_ofW HT_.out HW_.out (by kernel_rfl)) (fun _ _ _ h => h) (Or.inl ⟨by rfl, ?_⟩) hHeld ?_ ?_
     rotate_left
     ·rintro w' ⟨s0, s1, s2, s3, s4, s5, s6, s7, s8, s9, s10, s11, s12, s13, s14, s15, s16, s17, s18, s19, s20, s21, s22, s23, s24, s25, s26, s27, s28, s29, s30, s31⟩
      go_simp
      with_reducible rfl
     rotate_left
     ·simp only [Act.put, s0_, s1_, s2_, i64_w, i32_w]
      rfl
     refine pure_ (i := 3) (N := some 60) (v := ?_) (a' := ?_) #[Y, Y, Y, Y, Z, Y, Z, Y, Z, Z, Z, Z] rfl rfl (any_of HT_.out (by kernel_rfl)) (fun _ _ _ h => h) (Or.inl ⟨by rfl, ?_⟩) ?_ ?_
     rotate_left
     ·intro w'
      go_simp
      with_reducible rfl
     rotate_left
     ·simp only [Act.put, s0_, s1_, s2_, i64_w, i32_w]
      rfl
     refine take_ (i := 4) (N := some 61) (v := ?_) (a' := ?_) #[Y, Y, Y, Y, Y, Y, Z, Y, Z, Z, Z, Z] rfl rfl (take_ofW HT_.out HW_.out (by kernel_rfl)) (fun _ _ _ h => h) (Or.inl ⟨by rfl, ?_⟩) hHeld ?_ ?_
     rotate_left
     ·rintro w' ⟨s0, s1, s2, s3, s4, s5, s6, s7, s8, s9, s10, s11, s12, s13, s14, s15, s16, s17, s18, s19, s20, s21, s22, s23, s24, s25, s26, s27, s28, s29, s30, s31⟩
      go_simp
      with_reducible rfl
     rotate_left
     ·simp only [Act.put, s0_, s1_, s2_, i64_w, i32_w]
      rfl
     refine take_ (i := 6) (N := some 63) (v := ?_) (a' := ?_) #[Y, Y, Y, Y, Y, Y, Y, Y, Z, Z, Z, Z] rfl rfl (take_ofW HT_.out HW_.out (by kernel_rfl)) (fun _ _ _ h => h) (Or.inl ⟨by rfl, ?_⟩) hHeld ?_ ?_
     rotate_left
     ·rintro w' ⟨s0, s1, s2, s3, s4, s5, s6, s7, s8, s9, s10, s11, s12, s13, s14, s15, s16, s17, s18, s19, s20, s21, s22, s23, s24, s25, s26, s27, s28, s29, s30, s31⟩
      go_simp
      with_reducible rfl
     rotate_left
     ·simp only [Act.put, s0_, s1_, s2_, i64_w, i32_w]
      rfl
     refine pure_ (i := 8) (N := some 65) (v := ?_) (a' := ?_) #[Y, Y, Y, Y, Y, Y, Y, Y, Y, Z, Z, Z] rfl rfl (any_of HT_.out (by kernel_rfl)) (fun _ _ _ h => h) (Or.inl ⟨by rfl, ?_⟩) ?_ ?_
     rotate_left
     ·intro w'
      go_simp
      with_reducible rfl
     rotate_left
     ·simp only [Act.put, s0_, s1_, s2_, i64_w, i32_w]
      rfl
     refine take_ (i := 9) (N := some 66) (v := ?_) (a' := ?_) #[Y, Y, Y, Y, Y, Y, Y, Y, Y, Y, Z, Z] rfl rfl (take_ofW HT_.out HW_.out (by kernel_rfl)) (fun _ _ _ h => h) (Or.inl ⟨by rfl, ?_⟩) hHeld ?_ ?_
     rotate_left
     ·rintro w' ⟨s0, s1, s2, s3, s4, s5, s6, s7, s8, s9, s10, s11, s12, s13, s14, s15, s16, s17, s18, s19, s20, s21, s22, s23, s24, s25, s26, s27, s28, s29, s30, s31⟩
      go_simp
      with_reducible rfl
     rotate_left
     ·simp only [Act.put, s0_, s1_, s2_, i64_w, i32_w]
      rfl
     refine one_ (i := 10) (N := some 67) #[Y, Y, Y, Y, Y, Y, Y, Y, Y, Y, Y, Z] rfl rfl (one_of HT_.out (by kernel_rfl)) (by decide) (fun K hK => ?_)
     refine goes_ Try.func32 (by kernel_rfl) rfl #[.agg #[.int .i64 ((rd_T50 l0_7 x5_2).f0), .bool ((rd_T50 l0_7 x5_2).f1), .bool ((rd_T50 l0_7 x5_2).f2.f0), .slice A406_3 ((rd_T50 l0_7 x5_2).f2.f1).length c406_3, .int .i64 ((rd_T50 l0_7 x5_2).f2.f2), .string ((rd_T50 l0_7 x5_2).f3), .slice A406_6 ((rd_T50 l0_7 x5_2).f4).length c406_6, .slice A406_7 ((rd_T50 l0_7 x5_2).f5).length c406_7], .agg #[.int .i64 ((rd_T50 l1_7 x5_2).f0), .bool ((rd_T50 l1_7 x5_2).f1), .bool ((rd_T50 l1_7 x5_2).f2.f0), .slice A407_3 ((rd_T50 l1_7 x5_2).f2.f1).length c407_3, .int .i64 ((rd_T50 l1_7 x5_2).f2.f2), .string ((rd_T50 l1_7 x5_2).f3), .slice A407_6 ((rd_T50 l1_7 x5_2).f4).length c407_6, .slice A407_7 ((rd_T50 l1_7 x5_2).f5).length c407_7]] (by rfl) rfl rfl (by (try simp only [List.map_toArray, List.map_cons, List.map_nil]); first | done | rfl | (simp only [List.length_drop, List.length_take]; rfl)) ?_
     with_reducible refine (ih k2 (by have := HJ2.out; have := HK2.out; omega) ((rd_T50 l0_7 x5_2).f0) ((rd_T50 l0_7 x5_2).f1) ((rd_T50 l0_7 x5_2).f2.f0) _ _ ((rd_T50 l0_7 x5_2).f2.f1) ((rd_T50 l0_7 x5_2).f2.f2) ((rd_T50 l0_7 x5_2).f3) _ _ ((rd_T50 l0_7 x5_2).f4) _ _ ((rd_T50 l0_7 x5_2).f5) ((rd_T50 l1_7 x5_2).f0) ((rd_T50 l1_7 x5_2).f1) ((rd_T50 l1_7 x5_2).f2.f0) _ _ ((rd_T50 l1_7 x5_2).f2.f1) ((rd_T50 l1_7 x5_2).f2.f2) ((rd_T50 l1_7 x5_2).f3) _ _ ((rd_T50 l1_7 x5_2).f4) _ _ ((rd_T50 l1_7 x5_2).f5) true _ ?side1 ?side2 ?side3 ?side4 ?side5 ?side6 ?side7 ?side8 ?side9 ?side10 ?side11 ?side12 A45.out).mono ?_
     (case side1 => repeat (first | exact (Kd.C_below HR406_3.out HB.out) | (with_reducible refine Kd.C_alloc ?_ _) | (with_reducible refine Kd.C_drewN ?_ _) | (with_reducible refine Kd.C_drew ?_)))
     (case side2 => exact HC406_3.out)
     (case side3 => repeat (first | exact (Kd.C_below HR406_6.out HB.out) | (with_reducible refine Kd.C_alloc ?_ _) | (with_reducible refine Kd.C_drewN ?_ _) | (with_reducible refine Kd.C_drew ?_)))
     (case side4 => exact HC406_6.out)
     (case side5 => repeat (first | exact (Kd.C_below HR406_7.out HB.out) | (with_reducible refine Kd.C_alloc ?_ _) | (with_reducible refine Kd.C_drewN ?_ _) | (with_reducible refine Kd.C_drew ?_)))
     (case side6 => exact HC406_7.out)
     (case side7 => repeat (first | exact (Kd.C_below HR407_3.out HB.out) | (with_reducible refine Kd.C_alloc ?_ _) | (with_reducible refine Kd.C_drewN ?_ _) | (with_reducible refine Kd.C_drew ?_)))
     (case side8 => exact HC407_3.out)
     (case side9 => repeat (first | exact (Kd.C_below HR407_6.out HB.out) | (with_reducible refine Kd.C_alloc ?_ _) | (with_reducible refine Kd.C_drewN ?_ _) | (with_reducible refine Kd.C_drew ?_)))
     (case side10 => exact HC407_6.out)
     (case side11 => repeat (first | exact (Kd.C_below HR407_7.out HB.out) | (with_reducible refine Kd.C_alloc ?_ _) | (with_reducible refine Kd.C_drewN ?_ _) | (with_reducible refine Kd.C_drew ?_)))
     (case side12 => exact HC407_7.out)
     rintro e w50 ⟨rfl, hb⟩
     refine ⟨_, rfl, ?_⟩
     have n0_ := Aside0.mk (blk_below (g := gb402) (o := .cells #[.int .i64 a0_0, .bool a0_1, .bool a0_2, .slice A0_3 l0_3.length c0_3, .int .i64 a0_4, .string a0_5, .slice A0_6 l0_6.length c0_6, .slice (some ad406) l0_7.length c0_7] 50 (0, 0)) (by (with_reducible repeat (first | refine blk_drewN ?_ _ | refine blk_drew ?_ | refine blk_alloc ?_ _)); exact BK402.out) hb)
     have n1_ := Aside0.mk (blk_below (g := gb403) (o := .cells #[.int .i64 a1_0, .bool a1_1, .bool a1_2, .slice A1_3 l1_3.length c1_3, .int .i64 a1_4, .string a1_5, .slice A1_6 l1_6.length c1_6, .slice (some ad407) l1_7.length c1_7] 50 (0, 0)) (by (with_reducible repeat (first | refine blk_drewN ?_ _ | refine blk_drew ?_ | refine blk_alloc ?_ _)); exact BK403.out) hb)
     have n2_ := Aside0.mk (below_step (by repeat (first | (with_reducible first | exact HB.out | apply below_alloc | apply pw_below_drewN | apply below_drew1 | refine below_set ?_ GE402.out | refine below_set ?_ GE403.out) | exact HB.out)) hb)
     clear BK402
     clear BK403
     clear HB
     have BK402 := n0_
     have BK403 := n1_
     have HB := n2_
     clear n0_ n1_ n2_
     (try clear hb)
     (try clear hb2)
     (try clear hk)
     (try clear hi)
     refine hK.out _ _ ⟨(blk_cell BK402.out 0).trans rfl, (blk_cell BK402.out 1).trans rfl, (blk_cell BK402.out 2).trans rfl, (blk_cell BK402.out 3).trans rfl, (blk_cell BK402.out 4).trans rfl, (blk_cell BK402.out 5).trans rfl, (blk_cell BK402.out 6).trans rfl, (blk_cell BK402.out 7).trans rfl, (blk_cell BK403.out 0).trans rfl, (blk_cell BK403.out 1).trans rfl, (blk_cell BK403.out 2).trans rfl, (blk_cell BK403.out 3).trans rfl, (blk_cell BK403.out 4).trans rfl, (blk_cell BK403.out 5).trans rfl, (blk_cell BK403.out 6).trans rfl, (blk_cell BK403.out 7).trans rfl, ((HB.out.cell (World.block_lt_of_cell? w _ hw406_0)).trans hw406_0), ((HB.out.cell (World.block_lt_of_cell? w _ hw406_1)).trans hw406_1), ((HB.out.cell (World.block_lt_of_cell? w _ hw406_2)).trans hw406_2), ((HB.out.cell (World.block_lt_of_cell? w _ hw406_3)).trans hw406_3), ((HB.out.cell (World.block_lt_of_cell? w _ hw406_4)).trans hw406_4), ((HB.out.cell (World.block_lt_of_cell? w _ hw406_5)).trans hw406_5), ((HB.out.cell (World.block_lt_of_cell? w _ hw406_6)).trans hw406_6), ((HB.out.cell (World.block_lt_of_cell? w _ hw406_7)).trans hw406_7), ((HB.out.cell (World.block_lt_of_cell? w _ hw407_0)).trans hw407_0), ((HB.out.cell (World.block_lt_of_cell? w _ hw407_1)).trans hw407_1), ((HB.out.cell (World.block_lt_of_cell? w _ hw407_2)).trans hw407_2), ((HB.out.cell (World.block_lt_of_cell? w _ hw407_3)).trans hw407_3), ((HB.out.cell (World.block_lt_of_cell? w _ hw407_4)).trans hw407_4), ((HB.out.cell (World.block_lt_of_cell? w _ hw407_5)).trans hw407_5), ((HB.out.cell (World.block_lt_of_cell? w _ hw407_6)).trans hw407_6), ((HB.out.cell (World.block_lt_of_cell? w _ hw407_7)).trans hw407_7)⟩ (fun hHeld => ?_)
     clear hK K
     refine norm_ (a' := ?_) ?_ ?_
     rotate_left
     ·show Act.put _ (some 67) _ = _
      simp only [Act.put, s0_, s1_, s2_, i64_w, i32_w]
      rfl
     refine pure_ (i := 11) (N := some 68) (v := ?_) (a' := ?_) #[Y, Y, Y, Y, Y, Y, Y, Y, Y, Y, Y, Y] rfl rfl (any_of HT_.out (by kernel_rfl)) (fun _ _ _ h => h) (Or.inl ⟨by rfl, ?_⟩) ?_ ?_
     rotate_left
     ·intro w'
      go_simp
      with_reducible rfl
     rotate_left
     ·simp only [Act.put, s0_, s1_, s2_, i64_w, i32_w]
      rfl
     refine done_ (done_of HT_.out (by kernel_rfl)) ?_
     try go_wp2
     go_roundg k2
     case measure => have := HJ2.out; have := HK2.out; omega
     case rel => exact ⟨(wrap64 (x5_2 + 1)), (by first | rfl | (simp; done) | (simp [*]; done)), H', ⟨by have := HJ2.out; have := HK2.out; omega⟩, ⟨by (with_reducible repeat (first | refine blk_drewN ?_ _ | refine blk_drew ?_ | refine blk_alloc ?_ _)); exact BK402.out⟩, ⟨by (with_reducible repeat (first | refine blk_drewN ?_ _ | refine blk_drew ?_ | refine blk_alloc ?_ _)); exact BK403.out⟩, ⟨by repeat (first | (with_reducible first | exact HB.out | apply below_alloc | apply pw_below_drewN | apply below_drew1 | refine below_set ?_ GE402.out | refine below_set ?_ GE403.out) | exact HB.out)⟩⟩
end Go.Proofs.Ytpamgedmgjfjjaa.M
