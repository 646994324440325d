/-
Lemmas for OrderAll, for every input they speak of: M10.
-/
import Derived.Test.YtpamgedmgjfjjaaKOrderAll03
namespace Go.Proofs.Ytpamgedmgjfjjaa.M
open Go.RowKit Go.Proofs.YtpamgedmgjfjjaaW.PrintWords Go.Proofs.YtpamgedmgjfjjaaW.PrintLast Go.Proofs.YtpamgedmgjfjjaaW.PrintMore
attribute [local go_sem] max2_int min2_int max_two min_two max_three min_three max_four min_four
set_option linter.unusedVariables false
set_option linter.unusedSimpArgs false
mutual
def erratumlaw00_light.j0 : Nat → Int → Bool → Int → Bool → Bool → List Int → Int → ByteArray → List ByteArray → List (S50) → Option (Int)
 | 0, _, _, _, _, _, _, _, _, _, _ => none
 | k + 1, x1, x31, x245000, x245001, x245002, x245003, x245004, x245005, x245006, x245007 => if x31 = true then (some (-1)) else (erratumlaw00_light.l0 k x1 0 x245000 x245001 x245002 x245003 x245004 x245005 x245006 x245007)
def erratumlaw00_light.l0 : Nat → Int → Int → Int → Bool → Bool → List Int → Int → ByteArray → List ByteArray → List (S50) → Option (Int)
 | 0, _, _, _, _, _, _, _, _, _, _ => none
 | k + 1, x1, x5, x245000, x245001, x245002, x245003, x245004, x245005, x245006, x245007 => if x5 < (x245006.length : Int) then (if 0 ≤ x5 then (if ((rdOf ByteArray.empty x245006 x5).size : Int) > 2100 then (some (-1)) else (erratumlaw00_light.l0 k x1 (wrap64 (x5 + 1)) x245000 x245001 x245002 x245003 x245004 x245005 x245006 x245007)) else (none)) else (erratumlaw00_light.l1 k x1 0 x245000 x245001 x245002 x245003 x245004 x245005 x245006 x245007)
def erratumlaw00_light.l1 : Nat → Int → Int → Int → Bool → Bool → List Int → Int → ByteArray → List ByteArray → List (S50) → Option (Int)
 | 0, _, _, _, _, _, _, _, _, _, _ => none
 | k + 1, x1, x6, x245000, x245001, x245002, x245003, x245004, x245005, x245006, x245007 => if x6 < (x245007.length : Int) then (if x1 ≥ 0 then (if 0 ≤ x6 then ((erratumlaw00_light.f k ((rd_T50 x245007 x6).f0) ((rd_T50 x245007 x6).f1) ((rd_T50 x245007 x6).f2.f0) ((rd_T50 x245007 x6).f2.f1) ((rd_T50 x245007 x6).f2.f2) ((rd_T50 x245007 x6).f3) ((rd_T50 x245007 x6).f4) ((rd_T50 x245007 x6).f5) x1).bind fun t247 => (erratumlaw00_light.l1 k t247 (wrap64 (x6 + 1)) x245000 x245001 x245002 x245003 x245004 x245005 x245006 x245007)) else (none)) else (some x1)) else (some x1)
def erratumlaw00_light.f : Nat → Int → Bool → Bool → List Int → Int → ByteArray → List ByteArray → List (S50) → Int → Option (Int)
 | 0, _, _, _, _, _, _, _, _, _ => none
 | k + 1, a0_0, a0_1, a0_2, l0_3, a0_4, a0_5, l0_6, l0_7, a1 => if (l0_3.length : Int) > 95 then (erratumlaw00_light.j0 k (wrap64 (a1 - 1)) true a0_0 a0_1 a0_2 l0_3 a0_4 a0_5 l0_6 l0_7) else (if (a0_5.size : Int) > 2100 then (erratumlaw00_light.j0 k (wrap64 (a1 - 1)) true a0_0 a0_1 a0_2 l0_3 a0_4 a0_5 l0_6 l0_7) else (if (l0_6.length : Int) > 40 then (erratumlaw00_light.j0 k (wrap64 (a1 - 1)) true a0_0 a0_1 a0_2 l0_3 a0_4 a0_5 l0_6 l0_7) else (erratumlaw00_light.j0 k (wrap64 (a1 - 1)) (decide ((l0_7.length : Int) > 40)) a0_0 a0_1 a0_2 l0_3 a0_4 a0_5 l0_6 l0_7)))
end
theorem erratumlaw00_light.mono_l : ∀ k, (∀ y0 y1 y2 y3 y4 y5 y6 y7 y8, LeO (erratumlaw00_light.f k y0 y1 y2 y3 y4 y5 y6 y7 y8) (erratumlaw00_light.f (k + 1) y0 y1 y2 y3 y4 y5 y6 y7 y8)) ∧ (∀ y0 y1 y2 y3 y4 y5 y6 y7 y8 y9, LeO (erratumlaw00_light.j0 k y0 y1 y2 y3 y4 y5 y6 y7 y8 y9) (erratumlaw00_light.j0 (k + 1) y0 y1 y2 y3 y4 y5 y6 y7 y8 y9)) ∧ (∀ y0 y1 y2 y3 y4 y5 y6 y7 y8 y9, LeO (erratumlaw00_light.l0 k y0 y1 y2 y3 y4 y5 y6 y7 y8 y9) (erratumlaw00_light.l0 (k + 1) y0 y1 y2 y3 y4 y5 y6 y7 y8 y9)) ∧ (∀ y0 y1 y2 y3 y4 y5 y6 y7 y8 y9, LeO (erratumlaw00_light.l1 k y0 y1 y2 y3 y4 y5 y6 y7 y8 y9) (erratumlaw00_light.l1 (k + 1) y0 y1 y2 y3 y4 y5 y6 y7 y8 y9))
 | 0 => ⟨fun _ _ _ _ _ _ _ _ _ r h => by simp [erratumlaw00_light.f] at h, fun _ _ _ _ _ _ _ _ _ _ r h => by simp [erratumlaw00_light.j0] at h, fun _ _ _ _ _ _ _ _ _ _ r h => by simp [erratumlaw00_light.l0] at h, fun _ _ _ _ _ _ _ _ _ _ r h => by simp [erratumlaw00_light.l1] at h⟩
 | k + 1 => by
  obtain ⟨ih0, ih1, ih2, ih3⟩ := erratumlaw00_light.mono_l k
  refine ⟨?_, ?_, ?_, ?_⟩
  ·intro y0 y1 y2 y3 y4 y5 y6 y7 y8
   unfold erratumlaw00_light.f
   repeat' first
   | (with_reducible exact ih0 _ _ _ _ _ _ _ _ _)
   | (with_reducible exact ih1 _ _ _ _ _ _ _ _ _ _)
   | (with_reducible exact ih2 _ _ _ _ _ _ _ _ _ _)
   | (with_reducible exact ih3 _ _ _ _ _ _ _ _ _ _)
   | (with_reducible exact LeO.refl _)
   | (with_reducible exact LeO.none _)
   | (with_reducible refine LeO.ite ?_ ?_)
   | (with_reducible refine LeO.bind ?_ (fun _ => ?_))
   | exact ih0 _ _ _ _ _ _ _ _ _
   | exact ih1 _ _ _ _ _ _ _ _ _ _
   | exact ih2 _ _ _ _ _ _ _ _ _ _
   | exact ih3 _ _ _ _ _ _ _ _ _ _
   | exact LeO.none _
   | refine LeO.ite ?_ ?_
   | refine LeO.bind ?_ (fun _ => ?_)
  ·intro y0 y1 y2 y3 y4 y5 y6 y7 y8 y9
   unfold erratumlaw00_light.j0
   repeat' first
   | (with_reducible exact ih0 _ _ _ _ _ _ _ _ _)
   | (with_reducible exact ih1 _ _ _ _ _ _ _ _ _ _)
   | (with_reducible exact ih2 _ _ _ _ _ _ _ _ _ _)
   | (with_reducible exact ih3 _ _ _ _ _ _ _ _ _ _)
   | (with_reducible exact LeO.refl _)
   | (with_reducible exact LeO.none _)
   | (with_reducible refine LeO.ite ?_ ?_)
   | (with_reducible refine LeO.bind ?_ (fun _ => ?_))
   | exact ih0 _ _ _ _ _ _ _ _ _
   | exact ih1 _ _ _ _ _ _ _ _ _ _
   | exact ih2 _ _ _ _ _ _ _ _ _ _
   | exact ih3 _ _ _ _ _ _ _ _ _ _
   | exact LeO.none _
   | refine LeO.ite ?_ ?_
   | refine LeO.bind ?_ (fun _ => ?_)
  ·intro y0 y1 y2 y3 y4 y5 y6 y7 y8 y9
   unfold erratumlaw00_light.l0
   repeat' first
   | (with_reducible exact ih0 _ _ _ _ _ _ _ _ _)
   | (with_reducible exact ih1 _ _ _ _ _ _ _ _ _ _)
   | (with_reducible exact ih2 _ _ _ _ _ _ _ _ _ _)
   | (with_reducible exact ih3 _ _ _ _ _ _ _ _ _ _)
   | (with_reducible exact LeO.refl _)
   | (with_reducible exact LeO.none _)
   | (with_reducible refine LeO.ite ?_ ?_)
   | (with_reducible refine LeO.bind ?_ (fun _ => ?_))
   | exact ih0 _ _ _ _ _ _ _ _ _
   | exact ih1 _ _ _ _ _ _ _ _ _ _
   | exact ih2 _ _ _ _ _ _ _ _ _ _
   | exact ih3 _ _ _ _ _ _ _ _ _ _
   | exact LeO.none _
   | refine LeO.ite ?_ ?_
   | refine LeO.bind ?_ (fun _ => ?_)
  ·intro y0 y1 y2 y3 y4 y5 y6 y7 y8 y9
   unfold erratumlaw00_light.l1
   repeat' first
   | (with_reducible exact ih0 _ _ _ _ _ _ _ _ _)
   | (with_reducible exact ih1 _ _ _ _ _ _ _ _ _ _)
   | (with_reducible exact ih2 _ _ _ _ _ _ _ _ _ _)
   | (with_reducible exact ih3 _ _ _ _ _ _ _ _ _ _)
   | (with_reducible exact LeO.refl _)
   | (with_reducible exact LeO.none _)
   | (with_reducible refine LeO.ite ?_ ?_)
   | (with_reducible refine LeO.bind ?_ (fun _ => ?_))
   | exact ih0 _ _ _ _ _ _ _ _ _
   | exact ih1 _ _ _ _ _ _ _ _ _ _
   | exact ih2 _ _ _ _ _ _ _ _ _ _
   | exact ih3 _ _ _ _ _ _ _ _ _ _
   | exact LeO.none _
   | refine LeO.ite ?_ ?_
   | refine LeO.bind ?_ (fun _ => ?_)
theorem erratumlaw00_light.mono : ∀ a0 a1 a2 a3 a4 a5 a6 a7 a8 k, LeO (erratumlaw00_light.f k a0 a1 a2 a3 a4 a5 a6 a7 a8) (erratumlaw00_light.f (k + 1) a0 a1 a2 a3 a4 a5 a6 a7 a8) := by
 intro a0 a1 a2 a3 a4 a5 a6 a7 a8 k
 obtain ⟨ih0, ih1, ih2, ih3⟩ := erratumlaw00_light.mono_l k
 exact ih0 a0 a1 a2 a3 a4 a5 a6 a7 a8
set_option maxHeartbeats 8000000 in
set_option maxRecDepth 100000 in
theorem erratumlaw00_light.calls (k : Nat) : ∀ (a0_0 : Int) (a0_1 : Bool) (a0_2 : Bool) (A0_3 : Option Addr) (c0_3 : Nat) (l0_3 : List Int) (a0_4 : Int) (a0_5 : ByteArray) (A0_6 : Option Addr) (c0_6 : Nat) (l0_6 : List ByteArray) (A0_7 : Option Addr) (c0_7 : Nat) (l0_7 : List (S50)) (a1 : Int) (r : Int) (w : World) (hr0_3 : Kd.C (Kd.int .u32) w A0_3 l0_3.length l0_3) (hc0_3 : l0_3.length ≤ c0_3) (hr0_6 : Kd.C Kd.string w A0_6 l0_6.length l0_6) (hc0_6 : l0_6.length ≤ c0_6) (hr0_7 : Kd.C k50 w A0_7 l0_7.length l0_7) (hc0_7 : l0_7.length ≤ c0_7) (h : erratumlaw00_light.f k a0_0 a0_1 a0_2 l0_3 a0_4 a0_5 l0_6 l0_7 a1 = some r),
  Calls Try.prog 41 #[.agg #[.int .i64 a0_0, .bool a0_1, .bool a0_2, .slice A0_3 l0_3.length c0_3, .int .i64 a0_4, .string a0_5, .slice A0_6 l0_6.length c0_6, .slice A0_7 l0_7.length c0_7], .int .i64 a1] w fun e w' => e = .returned (.int .i64 r) ∧ Below w.heap.size w w' := by
 induction k using Nat.strongRecOn with
 | _ k ih =>
 intro a0_0 a0_1 a0_2 A0_3 c0_3 l0_3 a0_4 a0_5 A0_6 c0_6 l0_6 A0_7 c0_7 l0_7 a1 r w hr0_3 hc0_3 hr0_6 hc0_6 hr0_7 hc0_7 h
 cases k with
 | zero => exact absurd h (by simp [erratumlaw00_light.f])
 | succ k =>
 simp only [erratumlaw00_light.f] at h
 have hu50 := Try.underlying50
 have HR0_3 := Aside0.mk hr0_3
 have HC0_3 := Aside0.mk hc0_3
 clear hr0_3 hc0_3
 have HR0_6 := Aside0.mk hr0_6
 have HC0_6 := Aside0.mk hc0_6
 clear hr0_6 hc0_6
 have HR0_7 := Aside0.mk hr0_7
 have HC0_7 := Aside0.mk hc0_7
 clear hr0_7 hc0_7
 have HB := Aside0.mk (Below.refl w.heap.size w)
 have H : (if (l0_3.length : Int) > 95 then (erratumlaw00_light.j0 k (wrap64 (a1 - 1)) true a0_0 a0_1 a0_2 l0_3 a0_4 a0_5 l0_6 l0_7) else (if (a0_5.size : Int) > 2100 then (erratumlaw00_light.j0 k (wrap64 (a1 - 1)) true a0_0 a0_1 a0_2 l0_3 a0_4 a0_5 l0_6 l0_7) else (if (l0_6.length : Int) > 40 then (erratumlaw00_light.j0 k (wrap64 (a1 - 1)) true a0_0 a0_1 a0_2 l0_3 a0_4 a0_5 l0_6 l0_7) else (erratumlaw00_light.j0 k (wrap64 (a1 - 1)) (decide ((l0_7.length : Int) > 40)) a0_0 a0_1 a0_2 l0_3 a0_4 a0_5 l0_6 l0_7)))) = some r := h
 clear h
 have HC3 := Aside0.mk H
 clear H
 go_enter Try.func41, Try.ntmps41
 go_upto_region 2 with (first | ((with_reducible refine gate_dst (N := 2) rfl ?_); (try (refine gate_guard (by rfl) ?_; dsimp only)); refine box_event ?hg (N := 2) ?hd (cs := #[.int .i64 a0_0, .bool a0_1, .bool a0_2, .slice A0_3 l0_3.length c0_3, .int .i64 a0_4, .string a0_5, .slice A0_6 l0_6.length c0_6, .slice A0_7 l0_7.length c0_7]) (t := 50) ?hr ?_; (case hd => rfl); (case hg => rfl); (case hr => first | (go_simp; done) | (go_simp; rfl)); intro gb244 hg w4 hbox hb; have n0_ := Aside0.mk (below_step (by repeat (first | (with_reducible first | exact HB.out | apply below_alloc | apply pw_below_drewN | apply below_drew1) | exact HB.out)) hb); have n1_ := Aside0.mk (hbox); have n2_ := Aside0.mk ((by rw [hg]; exact (below_size (by repeat (first | (with_reducible first | exact HB.out | apply below_alloc | apply pw_below_drewN | apply below_drew1) | exact HB.out))) : w.heap.size ≤ gb244)); have n3_ := Aside0.mk ((by rw [hg]; exact (below_size (by repeat (first | (with_reducible first | exact HB.out | apply below_alloc | apply pw_below_drewN | apply below_drew1) | exact HB.out))) : w.heap.size ≤ gb244)); clear HB; have HB := n0_; have BK244 := n1_; have GW244 := n2_; have GE244 := n3_; clear n0_ n1_ n2_ n3_; clear hb hbox hg))
 (try simp only [Act.put, s0_, s1_, s2_])
 go_cut [31] (fun v31 wc => ∃ (kq : Nat) (x31_2 : Bool), v31 = .bool x31_2 ∧ Aside0 (erratumlaw00_light.j0 kq (wrap64 (a1 - 1)) x31_2 a0_0 a0_1 a0_2 l0_3 a0_4 a0_5 l0_6 l0_7 = some r) ∧ Aside0 (kq ≤ k) ∧ Aside0 (wc.heap[gb244]? = some (.cells #[.int .i64 a0_0, .bool a0_1, .bool a0_2, (.slice A0_3 l0_3.length c0_3), .int .i64 a0_4, .string a0_5, (.slice A0_6 l0_6.length c0_6), (.slice A0_7 l0_7.length c0_7)] 50 (0, 0))) ∧ Aside0 (Below w.heap.size w wc))
 case first =>
  have H := HC3.out
  clear HC3
  by_cases c5 : (l0_3.length : Int) > 95
  ·rw [if_pos c5] at H
   have c5b0 : decide (95 < (l0_3.length : Int)) = true := decide_eq_true c5
   have c5b1 : decide (95 < l0_3.length) = true := decide_eq_true (by omega)
   clear c5
   (first | rw [c5b0] | (simp only [i64_w, i32_w]; rw [c5b0]) | skip)
   have H' := Aside0.mk H
   clear H
   have hcz6_0 : w4.cell? ⟨gb244, 0, none⟩ = some (.int .i64 a0_0) := (blk_cell BK244.out 0).trans rfl
   have hcz6_1 : w4.cell? ⟨gb244, 1, none⟩ = some (.bool a0_1) := (blk_cell BK244.out 1).trans rfl
   have hcz6_2 : w4.cell? ⟨gb244, 2, none⟩ = some (.bool a0_2) := (blk_cell BK244.out 2).trans rfl
   have hcz6_3 : w4.cell? ⟨gb244, 3, none⟩ = some (.slice A0_3 l0_3.length c0_3) := (blk_cell BK244.out 3).trans rfl
   have hcz6_4 : w4.cell? ⟨gb244, 4, none⟩ = some (.int .i64 a0_4) := (blk_cell BK244.out 4).trans rfl
   have hcz6_5 : w4.cell? ⟨gb244, 5, none⟩ = some (.string a0_5) := (blk_cell BK244.out 5).trans rfl
   have hcz6_6 : w4.cell? ⟨gb244, 6, none⟩ = some (.slice A0_6 l0_6.length c0_6) := (blk_cell BK244.out 6).trans rfl
   have hcz6_7 : w4.cell? ⟨gb244, 7, none⟩ = some (.slice A0_7 l0_7.length c0_7) := (blk_cell BK244.out 7).trans rfl
   have hfz6_0 := blk_frozen BK244.out 0
   have hfz6_1 := blk_frozen BK244.out 1
   have hfz6_2 := blk_frozen BK244.out 2
   have hfz6_3 := blk_frozen BK244.out 3
   have hfz6_4 := blk_frozen BK244.out 4
   have hfz6_5 := blk_frozen BK244.out 5
   have hfz6_6 := blk_frozen BK244.out 6
   have hfz6_7 := blk_frozen BK244.out 7
   go_wp2
   go_meet
   case rel => exact ⟨_, (true), (by first | rfl | (simp; done) | (simp [*]; done)), H', ⟨by first | omega | exact Nat.le_refl _⟩, ⟨by (with_reducible repeat (first | refine blk_drewN ?_ _ | refine blk_drew ?_ | refine blk_alloc ?_ _)); exact BK244.out⟩, ⟨by repeat (first | (with_reducible first | exact HB.out | apply below_alloc | apply pw_below_drewN | apply below_drew1 | refine below_set ?_ GE244.out) | exact HB.out)⟩⟩
  rw [if_neg c5] at H
  have c5b0 : decide (95 < (l0_3.length : Int)) = false := decide_eq_false c5
  have c5b1 : decide (95 < l0_3.length) = false := decide_eq_false (by omega)
  clear c5
  (first | rw [c5b0] | (simp only [i64_w, i32_w]; rw [c5b0]) | skip)
  by_cases c7 : (a0_5.size : Int) > 2100
  ·rw [if_pos c7] at H
   have c7b0 : decide (2100 < (a0_5.size : Int)) = true := decide_eq_true c7
   have c7b1 : decide (2100 < a0_5.size) = true := decide_eq_true (by omega)
   clear c7
   have H' := Aside0.mk H
   clear H
   have hcz8_0 : w4.cell? ⟨gb244, 0, none⟩ = some (.int .i64 a0_0) := (blk_cell BK244.out 0).trans rfl
   have hcz8_1 : w4.cell? ⟨gb244, 1, none⟩ = some (.bool a0_1) := (blk_cell BK244.out 1).trans rfl
   have hcz8_2 : w4.cell? ⟨gb244, 2, none⟩ = some (.bool a0_2) := (blk_cell BK244.out 2).trans rfl
   have hcz8_3 : w4.cell? ⟨gb244, 3, none⟩ = some (.slice A0_3 l0_3.length c0_3) := (blk_cell BK244.out 3).trans rfl
   have hcz8_4 : w4.cell? ⟨gb244, 4, none⟩ = some (.int .i64 a0_4) := (blk_cell BK244.out 4).trans rfl
   have hcz8_5 : w4.cell? ⟨gb244, 5, none⟩ = some (.string a0_5) := (blk_cell BK244.out 5).trans rfl
   have hcz8_6 : w4.cell? ⟨gb244, 6, none⟩ = some (.slice A0_6 l0_6.length c0_6) := (blk_cell BK244.out 6).trans rfl
   have hcz8_7 : w4.cell? ⟨gb244, 7, none⟩ = some (.slice A0_7 l0_7.length c0_7) := (blk_cell BK244.out 7).trans rfl
   have hfz8_0 := blk_frozen BK244.out 0
   have hfz8_1 := blk_frozen BK244.out 1
   have hfz8_2 := blk_frozen BK244.out 2
   have hfz8_3 := blk_frozen BK244.out 3
   have hfz8_4 := blk_frozen BK244.out 4
   have hfz8_5 := blk_frozen BK244.out 5
   have hfz8_6 := blk_frozen BK244.out 6
   have hfz8_7 := blk_frozen BK244.out 7
   go_wp2
   go_meet
   case rel => exact ⟨_, (true), (by first | rfl | (simp; done) | (simp [*]; done)), H', ⟨by first | omega | exact Nat.le_refl _⟩, ⟨by (with_reducible repeat (first | refine blk_drewN ?_ _ | refine blk_drew ?_ | refine blk_alloc ?_ _)); exact BK244.out⟩, ⟨by repeat (first | (with_reducible first | exact HB.out | apply below_alloc | apply pw_below_drewN | apply below_drew1 | refine below_set ?_ GE244.out) | exact HB.out)⟩⟩
  rw [if_neg c7] at H
  have c7b0 : decide (2100 < (a0_5.size : Int)) = false := decide_eq_false c7
  have c7b1 : decide (2100 < a0_5.size) = false := decide_eq_false (by omega)
  clear c7
  by_cases c9 : (l0_6.length : Int) > 40
  ·rw [if_pos c9] at H
   have c9b0 : decide (40 < (l0_6.length : Int)) = true := decide_eq_true c9
   have c9b1 : decide (40 < l0_6.length) = true := decide_eq_true (by omega)
   clear c9
   have H' := Aside0.mk H
   clear H
   have hcz10_0 : w4.cell? ⟨gb244, 0, none⟩ = some (.int .i64 a0_0) := (blk_cell BK244.out 0).trans rfl
   have hcz10_1 : w4.cell? ⟨gb244, 1, none⟩ = some (.bool a0_1) := (blk_cell BK244.out 1).trans rfl
   have hcz10_2 : w4.cell? ⟨gb244, 2, none⟩ = some (.bool a0_2) := (blk_cell BK244.out 2).trans rfl
   have hcz10_3 : w4.cell? ⟨gb244, 3, none⟩ = some (.slice A0_3 l0_3.length c0_3) := (blk_cell BK244.out 3).trans rfl
   have hcz10_4 : w4.cell? ⟨gb244, 4, none⟩ = some (.int .i64 a0_4) := (blk_cell BK244.out 4).trans rfl
   have hcz10_5 : w4.cell? ⟨gb244, 5, none⟩ = some (.string a0_5) := (blk_cell BK244.out 5).trans rfl
   have hcz10_6 : w4.cell? ⟨gb244, 6, none⟩ = some (.slice A0_6 l0_6.length c0_6) := (blk_cell BK244.out 6).trans rfl
   have hcz10_7 : w4.cell? ⟨gb244, 7, none⟩ = some (.slice A0_7 l0_7.length c0_7) := (blk_cell BK244.out 7).trans rfl
   have hfz10_0 := blk_frozen BK244.out 0
   have hfz10_1 := blk_frozen BK244.out 1
   have hfz10_2 := blk_frozen BK244.out 2
   have hfz10_3 := blk_frozen BK244.out 3
   have hfz10_4 := blk_frozen BK244.out 4
   have hfz10_5 := blk_frozen BK244.out 5
   have hfz10_6 := blk_frozen BK244.out 6
   have hfz10_7 := blk_frozen BK244.out 7
   go_wp2
   go_meet
   case rel => exact ⟨_, (true), (by first | rfl | (simp; done) | (simp [*]; done)), H', ⟨by first | omega | exact Nat.le_refl _⟩, ⟨by (with_reducible repeat (first | refine blk_drewN ?_ _ | refine blk_drew ?_ | refine blk_alloc ?_ _)); exact BK244.out⟩, ⟨by repeat (first | (with_reducible first | exact HB.out | apply below_alloc | apply pw_below_drewN | apply below_drew1 | refine below_set ?_ GE244.out) | exact HB.out)⟩⟩
  rw [if_neg c9] at H
  have c9b0 : decide (40 < (l0_6.length : Int)) = false := decide_eq_false c9
  have c9b1 : decide (40 < l0_6.length) = false := decide_eq_false (by omega)
  clear c9
  have H' := Aside0.mk H
  clear H
  have hcz11_0 : w4.cell? ⟨gb244, 0, none⟩ = some (.int .i64 a0_0) := (blk_cell BK244.out 0).trans rfl
  have hcz11_1 : w4.cell? ⟨gb244, 1, none⟩ = some (.bool a0_1) := (blk_cell BK244.out 1).trans rfl
  have hcz11_2 : w4.cell? ⟨gb244, 2, none⟩ = some (.bool a0_2) := (blk_cell BK244.out 2).trans rfl
  have hcz11_3 : w4.cell? ⟨gb244, 3, none⟩ = some (.slice A0_3 l0_3.length c0_3) := (blk_cell BK244.out 3).trans rfl
  have hcz11_4 : w4.cell? ⟨gb244, 4, none⟩ = some (.int .i64 a0_4) := (blk_cell BK244.out 4).trans rfl
  have hcz11_5 : w4.cell? ⟨gb244, 5, none⟩ = some (.string a0_5) := (blk_cell BK244.out 5).trans rfl
  have hcz11_6 : w4.cell? ⟨gb244, 6, none⟩ = some (.slice A0_6 l0_6.length c0_6) := (blk_cell BK244.out 6).trans rfl
  have hcz11_7 : w4.cell? ⟨gb244, 7, none⟩ = some (.slice A0_7 l0_7.length c0_7) := (blk_cell BK244.out 7).trans rfl
  have hfz11_0 := blk_frozen BK244.out 0
  have hfz11_1 := blk_frozen BK244.out 1
  have hfz11_2 := blk_frozen BK244.out 2
  have hfz11_3 := blk_frozen BK244.out 3
  have hfz11_4 := blk_frozen BK244.out 4
  have hfz11_5 := blk_frozen BK244.out 5
  have hfz11_6 := blk_frozen BK244.out 6
  have hfz11_7 := blk_frozen BK244.out 7
  go_wp2
  go_meet
  case rel => exact ⟨_, (decide ((l0_7.length : Int) > 40)), (by first | rfl | (simp; done) | (simp [*]; done)), H', ⟨by first | omega | exact Nat.le_refl _⟩, ⟨by (with_reducible repeat (first | refine blk_drewN ?_ _ | refine blk_drew ?_ | refine blk_alloc ?_ _)); exact BK244.out⟩, ⟨by repeat (first | (with_reducible first | exact HB.out | apply below_alloc | apply pw_below_drewN | apply below_drew1 | refine below_set ?_ GE244.out) | exact HB.out)⟩⟩
 case rest =>
  clear HC3
  try clear c5
  try clear c5b0
  try clear c5b1
  try clear c7
  try clear c7b0
  try clear c7b1
  try clear c9
  try clear c9b0
  try clear c9b1
  try clear hcz10_0
  try clear hcz10_1
  try clear hcz10_2
  try clear hcz10_3
  try clear hcz10_4
  try clear hcz10_5
  try clear hcz10_6
  try clear hcz10_7
  try clear hcz11_0
  try clear hcz11_1
  try clear hcz11_2
  try clear hcz11_3
  try clear hcz11_4
  try clear hcz11_5
  try clear hcz11_6
  try clear hcz11_7
  try clear hcz6_0
  try clear hcz6_1
  try clear hcz6_2
  try clear hcz6_3
  try clear hcz6_4
  try clear hcz6_5
  try clear hcz6_6
  try clear hcz6_7
  try clear hcz8_0
  try clear hcz8_1
  try clear hcz8_2
  try clear hcz8_3
  try clear hcz8_4
  try clear hcz8_5
  try clear hcz8_6
  try clear hcz8_7
  try clear hfz10_0
  try clear hfz10_1
  try clear hfz10_2
  try clear hfz10_3
  try clear hfz10_4
  try clear hfz10_5
  try clear hfz10_6
  try clear hfz10_7
  try clear hfz11_0
  try clear hfz11_1
  try clear hfz11_2
  try clear hfz11_3
  try clear hfz11_4
  try clear hfz11_5
  try clear hfz11_6
  try clear hfz11_7
  try clear hfz6_0
  try clear hfz6_1
  try clear hfz6_2
  try clear hfz6_3
  try clear hfz6_4
  try clear hfz6_5
  try clear hfz6_6
  try clear hfz6_7
  try clear hfz8_0
  try clear hfz8_1
  try clear hfz8_2
  try clear hfz8_3
  try clear hfz8_4
  try clear hfz8_5
  try clear hfz8_6
  try clear hfz8_7
  obtain ⟨kq, x31_2, rfl, HA, HJ2, BK244, HB⟩ := hcut
  cases kq with
  | zero => exact absurd HA.out (by simp [erratumlaw00_light.j0])
  | succ kj2 =>
   have H := HA.out
   clear HA
   simp only [erratumlaw00_light.j0] at H
   by_cases c12 : x31_2 = true
   ·subst c12
    have H1 : (some (-1)) = some r := by rw [if_pos rfl] at H; exact H
    clear H
    have H := H1
    clear H1
    obtain rfl := Option.some.inj H
    go_wp2
    go_ret
    exact ⟨by first | rfl | (simp [errW_none, errW_some] <;> rfl) | (simp [*, errW_none, errW_some] <;> rfl), by repeat (first | (with_reducible first | exact HB.out | apply below_alloc | apply pw_below_drewN | apply below_drew1 | refine below_set ?_ GE244.out) | exact HB.out)⟩
   replace c12 := Bool.eq_false_iff.mpr c12
   subst c12
   have H1 : (erratumlaw00_light.l0 kj2 (wrap64 (a1 - 1)) 0 a0_0 a0_1 a0_2 l0_3 a0_4 a0_5 l0_6 l0_7) = some r := by rw [if_neg (show ¬ (false = true) by decide)] at H; exact H
   clear H
   have H := H1
   clear H1
   have H' := Aside0.mk H
   clear H
   go_wp2
   go_loopg [5] kj2 (fun kq v5 w' => ∃ (x5_2 : Int), v5 = .int .i64 x5_2 ∧ Aside0 (erratumlaw00_light.l0 kq (wrap64 (a1 - 1)) x5_2 a0_0 a0_1 a0_2 l0_3 a0_4 a0_5 l0_6 l0_7 = some r) ∧ Aside0 (kq ≤ kj2) ∧ Aside0 (w'.heap[gb244]? = some (.cells #[.int .i64 a0_0, .bool a0_1, .bool a0_2, (.slice A0_3 l0_3.length c0_3), .int .i64 a0_4, .string a0_5, (.slice A0_6 l0_6.length c0_6), (.slice A0_7 l0_7.length c0_7)] 50 (0, 0))) ∧ Aside0 (Below w.heap.size w w'))
   case atStart => exact ⟨(0), (by first | rfl | (simp; done) | (simp [*]; done)), H', ⟨Nat.le_refl _⟩, ⟨by (with_reducible repeat (first | refine blk_drewN ?_ _ | refine blk_drew ?_ | refine blk_alloc ?_ _)); exact BK244.out⟩, ⟨by repeat (first | (with_reducible first | exact HB.out | apply below_alloc | apply pw_below_drewN | apply below_drew1 | refine below_set ?_ GE244.out) | exact HB.out)⟩⟩
   case round =>
    clear H'
    try clear c5
    try clear c5b0
    try clear c5b1
    try clear c7
    try clear c7b0
    try clear c7b1
    try clear c9
    try clear c9b0
    try clear c9b1
    try clear c12
    try clear hcz10_0
    try clear hcz10_1
    try clear hcz10_2
    try clear hcz10_3
    try clear hcz10_4
    try clear hcz10_5
    try clear hcz10_6
    try clear hcz10_7
    try clear hcz11_0
    try clear hcz11_1
    try clear hcz11_2
    try clear hcz11_3
    try clear hcz11_4
    try clear hcz11_5
    try clear hcz11_6
    try clear hcz11_7
    try clear hcz6_0
    try clear hcz6_1
    try clear hcz6_2
    try clear hcz6_3
    try clear hcz6_4
    try clear hcz6_5
    try clear hcz6_6
    try clear hcz6_7
    try clear hcz8_0
    try clear hcz8_1
    try clear hcz8_2
    try clear hcz8_3
    try clear hcz8_4
    try clear hcz8_5
    try clear hcz8_6
    try clear hcz8_7
    try clear hfz10_0
    try clear hfz10_1
    try clear hfz10_2
    try clear hfz10_3
    try clear hfz10_4
    try clear hfz10_5
    try clear hfz10_6
    try clear hfz10_7
    try clear hfz11_0
    try clear hfz11_1
    try clear hfz11_2
    try clear hfz11_3
    try clear hfz11_4
    try clear hfz11_5
    try clear hfz11_6
    try clear hfz11_7
    try clear hfz6_0
    try clear hfz6_1
    try clear hfz6_2
    try clear hfz6_3
    try clear hfz6_4
    try clear hfz6_5
    try clear hfz6_6
    try clear hfz6_7
    try clear hfz8_0
    try clear hfz8_1
    try clear hfz8_2
    try clear hfz8_3
    try clear hfz8_4
    try clear hfz8_5
    try clear hfz8_6
    try clear hfz8_7
    obtain ⟨x5_2, rfl, HA, HK2, BK244, HB⟩ := hrel
    cases gk with
    | zero => exact absurd HA.out (by simp [erratumlaw00_light.l0])
    | succ k2 =>
     have H := HA.out
     clear HA
     simp only [erratumlaw00_light.l0] at H
     by_cases c13 : x5_2 < (l0_6.length : Int)
     ·rw [if_pos c13] at H
      have c13b0 : decide (x5_2 < (l0_6.length : Int)) = true := decide_eq_true c13
      clear c13
      by_cases c14 : 0 ≤ x5_2
      rotate_left
      ·rw [if_neg c14] at H
       exact absurd H (by simp)
      rw [if_pos c14] at H
      have c14b0 : decide (0 ≤ x5_2) = true := decide_eq_true c14
      clear c14
      by_cases c15 : ((rdOf ByteArray.empty l0_6 x5_2).size : Int) > 2100
      ·rw [if_pos c15] at H
       have c15b0 : decide (2100 < ((rdOf ByteArray.empty l0_6 x5_2).size : Int)) = true := decide_eq_true c15
       have c15b1 : decide (2100 < (rdOf ByteArray.empty l0_6 x5_2).size) = true := decide_eq_true (by omega)
       clear c15
       obtain rfl := Option.some.inj H
       have hcz16_0 : wr.cell? ⟨gb244, 0, none⟩ = some (.int .i64 a0_0) := (blk_cell BK244.out 0).trans rfl
       have hcz16_1 : wr.cell? ⟨gb244, 1, none⟩ = some (.bool a0_1) := (blk_cell BK244.out 1).trans rfl
       have hcz16_2 : wr.cell? ⟨gb244, 2, none⟩ = some (.bool a0_2) := (blk_cell BK244.out 2).trans rfl
       have hcz16_3 : wr.cell? ⟨gb244, 3, none⟩ = some (.slice A0_3 l0_3.length c0_3) := (blk_cell BK244.out 3).trans rfl
       have hcz16_4 : wr.cell? ⟨gb244, 4, none⟩ = some (.int .i64 a0_4) := (blk_cell BK244.out 4).trans rfl
       have hcz16_5 : wr.cell? ⟨gb244, 5, none⟩ = some (.string a0_5) := (blk_cell BK244.out 5).trans rfl
       have hcz16_6 : wr.cell? ⟨gb244, 6, none⟩ = some (.slice A0_6 l0_6.length c0_6) := (blk_cell BK244.out 6).trans rfl
       have hcz16_7 : wr.cell? ⟨gb244, 7, none⟩ = some (.slice A0_7 l0_7.length c0_7) := (blk_cell BK244.out 7).trans rfl
       have hfz16_0 := blk_frozen BK244.out 0
       have hfz16_1 := blk_frozen BK244.out 1
       have hfz16_2 := blk_frozen BK244.out 2
       have hfz16_3 := blk_frozen BK244.out 3
       have hfz16_4 := blk_frozen BK244.out 4
       have hfz16_5 := blk_frozen BK244.out 5
       have hfz16_6 := blk_frozen BK244.out 6
       have hfz16_7 := blk_frozen BK244.out 7
       have p245 : 0 ≤ (x5_2 : Int) := of_decide_eq_true (by first | (with_reducible assumption) | assumption)
       have q245 : x5_2 < (l0_6.length : Int) := of_decide_eq_true (by first | (with_reducible assumption) | assumption)
       obtain ⟨ad245, e245, hx245_0⟩ := Kd.at_string HR0_6.out x5_2 p245 q245
       cases e245
       replace hx245_0 := (HB.out.cell (World.block_lt_of_cell? w _ hx245_0)).trans hx245_0
       replace p245 := eq_true p245
       replace q245 := eq_true q245
       go_wp2
       go_ret
       exact ⟨by first | rfl | (simp [errW_none, errW_some] <;> rfl) | (simp [*, errW_none, errW_some] <;> rfl), by repeat (first | (with_reducible first | exact HB.out | apply below_alloc | apply pw_below_drewN | apply below_drew1 | refine below_set ?_ GE244.out) | exact HB.out)⟩
      rw [if_neg c15] at H
      have c15b0 : decide (2100 < ((rdOf ByteArray.empty l0_6 x5_2).size : Int)) = false := decide_eq_false c15
      have c15b1 : decide (2100 < (rdOf ByteArray.empty l0_6 x5_2).size) = false := decide_eq_false (by omega)
      clear c15
      have H' := Aside0.mk H
      clear H
      have hcz17_0 : wr.cell? ⟨gb244, 0, none⟩ = some (.int .i64 a0_0) := (blk_cell BK244.out 0).trans rfl
      have hcz17_1 : wr.cell? ⟨gb244, 1, none⟩ = some (.bool a0_1) := (blk_cell BK244.out 1).trans rfl
      have hcz17_2 : wr.cell? ⟨gb244, 2, none⟩ = some (.bool a0_2) := (blk_cell BK244.out 2).trans rfl
      have hcz17_3 : wr.cell? ⟨gb244, 3, none⟩ = some (.slice A0_3 l0_3.length c0_3) := (blk_cell BK244.out 3).trans rfl
      have hcz17_4 : wr.cell? ⟨gb244, 4, none⟩ = some (.int .i64 a0_4) := (blk_cell BK244.out 4).trans rfl
      have hcz17_5 : wr.cell? ⟨gb244, 5, none⟩ = some (.string a0_5) := (blk_cell BK244.out 5).trans rfl
      have hcz17_6 : wr.cell? ⟨gb244, 6, none⟩ = some (.slice A0_6 l0_6.length c0_6) := (blk_cell BK244.out 6).trans rfl
      have hcz17_7 : wr.cell? ⟨gb244, 7, none⟩ = some (.slice A0_7 l0_7.length c0_7) := (blk_cell BK244.out 7).trans rfl
      have hfz17_0 := blk_frozen BK244.out 0
      have hfz17_1 := blk_frozen BK244.out 1
      have hfz17_2 := blk_frozen BK244.out 2
      have hfz17_3 := blk_frozen BK244.out 3
      have hfz17_4 := blk_frozen BK244.out 4
      have hfz17_5 := blk_frozen BK244.out 5
      have hfz17_6 := blk_frozen BK244.out 6
      have hfz17_7 := blk_frozen BK244.out 7
      have p245 : 0 ≤ (x5_2 : Int) := of_decide_eq_true (by first | (with_reducible assumption) | assumption)
      have q245 : x5_2 < (l0_6.length : Int) := of_decide_eq_true (by first | (with_reducible assumption) | assumption)
      obtain ⟨ad245, e245, hx245_0⟩ := Kd.at_string HR0_6.out x5_2 p245 q245
      cases e245
      replace hx245_0 := (HB.out.cell (World.block_lt_of_cell? w _ hx245_0)).trans hx245_0
      replace p245 := eq_true p245
      replace q245 := eq_true q245
      go_wp2
      go_roundg k2
      case measure => have := HJ2.out; have := HK2.out; omega
      case rel => exact ⟨(wrap64 (x5_2 + 1)), (by first | rfl | (simp; done) | (simp [*]; done)), H', ⟨by have := HJ2.out; have := HK2.out; omega⟩, ⟨by (with_reducible repeat (first | refine blk_drewN ?_ _ | refine blk_drew ?_ | refine blk_alloc ?_ _)); exact BK244.out⟩, ⟨by repeat (first | (with_reducible first | exact HB.out | apply below_alloc | apply pw_below_drewN | apply below_drew1 | refine below_set ?_ GE244.out) | exact HB.out)⟩⟩
     rw [if_neg c13] at H
     have c13b0 : decide (x5_2 < (l0_6.length : Int)) = false := decide_eq_false c13
     clear c13
     have H' := Aside0.mk H
     clear H
     have hcz18_0 : wr.cell? ⟨gb244, 0, none⟩ = some (.int .i64 a0_0) := (blk_cell BK244.out 0).trans rfl
     have hcz18_1 : wr.cell? ⟨gb244, 1, none⟩ = some (.bool a0_1) := (blk_cell BK244.out 1).trans rfl
     have hcz18_2 : wr.cell? ⟨gb244, 2, none⟩ = some (.bool a0_2) := (blk_cell BK244.out 2).trans rfl
     have hcz18_3 : wr.cell? ⟨gb244, 3, none⟩ = some (.slice A0_3 l0_3.length c0_3) := (blk_cell BK244.out 3).trans rfl
     have hcz18_4 : wr.cell? ⟨gb244, 4, none⟩ = some (.int .i64 a0_4) := (blk_cell BK244.out 4).trans rfl
     have hcz18_5 : wr.cell? ⟨gb244, 5, none⟩ = some (.string a0_5) := (blk_cell BK244.out 5).trans rfl
     have hcz18_6 : wr.cell? ⟨gb244, 6, none⟩ = some (.slice A0_6 l0_6.length c0_6) := (blk_cell BK244.out 6).trans rfl
     have hcz18_7 : wr.cell? ⟨gb244, 7, none⟩ = some (.slice A0_7 l0_7.length c0_7) := (blk_cell BK244.out 7).trans rfl
     have hfz18_0 := blk_frozen BK244.out 0
     have hfz18_1 := blk_frozen BK244.out 1
     have hfz18_2 := blk_frozen BK244.out 2
     have hfz18_3 := blk_frozen BK244.out 3
     have hfz18_4 := blk_frozen BK244.out 4
     have hfz18_5 := blk_frozen BK244.out 5
     have hfz18_6 := blk_frozen BK244.out 6
     have hfz18_7 := blk_frozen BK244.out 7
     go_wp2
     go_loopg [1, 6] k2 (fun kq v1 v6 w' => ∃ (x1_3 : Int) (x6_3 : Int), v1 = .int .i64 x1_3 ∧ v6 = .int .i64 x6_3 ∧ Aside0 (erratumlaw00_light.l1 kq x1_3 x6_3 a0_0 a0_1 a0_2 l0_3 a0_4 a0_5 l0_6 l0_7 = some r) ∧ Aside0 (kq ≤ k2) ∧ Aside0 (w'.heap[gb244]? = some (.cells #[.int .i64 a0_0, .bool a0_1, .bool a0_2, (.slice A0_3 l0_3.length c0_3), .int .i64 a0_4, .string a0_5, (.slice A0_6 l0_6.length c0_6), (.slice A0_7 l0_7.length c0_7)] 50 (0, 0))) ∧ Aside0 (Below w.heap.size w w'))
     case atStart => exact ⟨((wrap64 (a1 - 1))), (0), (by first | rfl | (simp; done) | (simp [*]; done)), (by first | rfl | (simp; done) | (simp [*]; done)), H', ⟨Nat.le_refl _⟩, ⟨by (with_reducible repeat (first | refine blk_drewN ?_ _ | refine blk_drew ?_ | refine blk_alloc ?_ _)); exact BK244.out⟩, ⟨by repeat (first | (with_reducible first | exact HB.out | apply below_alloc | apply pw_below_drewN | apply below_drew1 | refine below_set ?_ GE244.out) | exact HB.out)⟩⟩
     case round =>
      clear H'
      try clear c5
      try clear c5b0
      try clear c5b1
      try clear c7
      try clear c7b0
      try clear c7b1
      try clear c9
      try clear c9b0
      try clear c9b1
      try clear c12
      try clear c13
      try clear c13b0
      try clear c14
      try clear c14b0
      try clear c15
      try clear c15b0
      try clear c15b1
      try clear hcz10_0
      try clear hcz10_1
      try clear hcz10_2
      try clear hcz10_3
      try clear hcz10_4
      try clear hcz10_5
      try clear hcz10_6
      try clear hcz10_7
      try clear hcz11_0
      try clear hcz11_1
      try clear hcz11_2
      try clear hcz11_3
      try clear hcz11_4
      try clear hcz11_5
      try clear hcz11_6
      try clear hcz11_7
      try clear hcz16_0
      try clear hcz16_1
      try clear hcz16_2
      try clear hcz16_3
      try clear hcz16_4
      try clear hcz16_5
      try clear hcz16_6
      try clear hcz16_7
      try clear hcz17_0
      try clear hcz17_1
      try clear hcz17_2
      try clear hcz17_3
      try clear hcz17_4
      try clear hcz17_5
      try clear hcz17_6
      try clear hcz17_7
      try clear hcz18_0
      try clear hcz18_1
      try clear hcz18_2
      try clear hcz18_3
      try clear hcz18_4
      try clear hcz18_5
      try clear hcz18_6
      try clear hcz18_7
      try clear hcz6_0
      try clear hcz6_1
      try clear hcz6_2
      try clear hcz6_3
      try clear hcz6_4
      try clear hcz6_5
      try clear hcz6_6
      try clear hcz6_7
      try clear hcz8_0
      try clear hcz8_1
      try clear hcz8_2
      try clear hcz8_3
      try clear hcz8_4
      try clear hcz8_5
      try clear hcz8_6
      try clear hcz8_7
      try clear hfz10_0
      try clear hfz10_1
      try clear hfz10_2
      try clear hfz10_3
      try clear hfz10_4
      try clear hfz10_5
      try clear hfz10_6
      try clear hfz10_7
      try clear hfz11_0
      try clear hfz11_1
      try clear hfz11_2
      try clear hfz11_3
      try clear hfz11_4
      try clear hfz11_5
      try clear hfz11_6
      try clear hfz11_7
      try clear hfz16_0
      try clear hfz16_1
      try clear hfz16_2
      try clear hfz16_3
      try clear hfz16_4
      try clear hfz16_5
      try clear hfz16_6
      try clear hfz16_7
      try clear hfz17_0
      try clear hfz17_1
      try clear hfz17_2
      try clear hfz17_3
      try clear hfz17_4
      try clear hfz17_5
      try clear hfz17_6
      try clear hfz17_7
      try clear hfz18_0
      try clear hfz18_1
      try clear hfz18_2
      try clear hfz18_3
      try clear hfz18_4
      try clear hfz18_5
      try clear hfz18_6
      try clear hfz18_7
      try clear hfz6_0
      try clear hfz6_1
      try clear hfz6_2
      try clear hfz6_3
      try clear hfz6_4
      try clear hfz6_5
      try clear hfz6_6
      try clear hfz6_7
      try clear hfz8_0
      try clear hfz8_1
      try clear hfz8_2
      try clear hfz8_3
      try clear hfz8_4
      try clear hfz8_5
      try clear hfz8_6
      try clear hfz8_7
      try clear hx245_0
      try clear p245
      try clear q245
      obtain ⟨x1_3, x6_3, rfl, rfl, HA, HK3, BK244, HB⟩ := hrel
      cases gk with
      | zero => exact absurd HA.out (by simp [erratumlaw00_light.l1])
      | succ k3 =>
       have H := HA.out
       clear HA
       simp only [erratumlaw00_light.l1] at H
       by_cases c19 : x6_3 < (l0_7.length : Int)
       rotate_left
       ·rw [if_neg c19] at H
        have c19b0 : decide (x6_3 < (l0_7.length : Int)) = false := decide_eq_false c19
        clear c19
        obtain rfl := Option.some.inj H
        have hcz26_0 : wr.cell? ⟨gb244, 0, none⟩ = some (.int .i64 a0_0) := (blk_cell BK244.out 0).trans rfl
        have hcz26_1 : wr.cell? ⟨gb244, 1, none⟩ = some (.bool a0_1) := (blk_cell BK244.out 1).trans rfl
        have hcz26_2 : wr.cell? ⟨gb244, 2, none⟩ = some (.bool a0_2) := (blk_cell BK244.out 2).trans rfl
        have hcz26_3 : wr.cell? ⟨gb244, 3, none⟩ = some (.slice A0_3 l0_3.length c0_3) := (blk_cell BK244.out 3).trans rfl
        have hcz26_4 : wr.cell? ⟨gb244, 4, none⟩ = some (.int .i64 a0_4) := (blk_cell BK244.out 4).trans rfl
        have hcz26_5 : wr.cell? ⟨gb244, 5, none⟩ = some (.string a0_5) := (blk_cell BK244.out 5).trans rfl
        have hcz26_6 : wr.cell? ⟨gb244, 6, none⟩ = some (.slice A0_6 l0_6.length c0_6) := (blk_cell BK244.out 6).trans rfl
        have hcz26_7 : wr.cell? ⟨gb244, 7, none⟩ = some (.slice A0_7 l0_7.length c0_7) := (blk_cell BK244.out 7).trans rfl
        have hfz26_0 := blk_frozen BK244.out 0
        have hfz26_1 := blk_frozen BK244.out 1
        have hfz26_2 := blk_frozen BK244.out 2
        have hfz26_3 := blk_frozen BK244.out 3
        have hfz26_4 := blk_frozen BK244.out 4
        have hfz26_5 := blk_frozen BK244.out 5
        have hfz26_6 := blk_frozen BK244.out 6
        have hfz26_7 := blk_frozen BK244.out 7
        go_wp2
        go_ret
        exact ⟨by first | rfl | (simp [errW_none, errW_some] <;> rfl) | (simp [*, errW_none, errW_some] <;> rfl), by repeat (first | (with_reducible first | exact HB.out | apply below_alloc | apply pw_below_drewN | apply below_drew1 | refine below_set ?_ GE244.out) | exact HB.out)⟩
       rw [if_pos c19] at H
       have c19b0 : decide (x6_3 < (l0_7.length : Int)) = true := decide_eq_true c19
       clear c19
       by_cases c20 : x1_3 ≥ 0
       rotate_left
       ·rw [if_neg c20] at H
        have c20b0 : decide (0 ≤ x1_3) = false := decide_eq_false c20
        clear c20
        obtain rfl := Option.some.inj H
        have hcz25_0 : wr.cell? ⟨gb244, 0, none⟩ = some (.int .i64 a0_0) := (blk_cell BK244.out 0).trans rfl
        have hcz25_1 : wr.cell? ⟨gb244, 1, none⟩ = some (.bool a0_1) := (blk_cell BK244.out 1).trans rfl
        have hcz25_2 : wr.cell? ⟨gb244, 2, none⟩ = some (.bool a0_2) := (blk_cell BK244.out 2).trans rfl
        have hcz25_3 : wr.cell? ⟨gb244, 3, none⟩ = some (.slice A0_3 l0_3.length c0_3) := (blk_cell BK244.out 3).trans rfl
        have hcz25_4 : wr.cell? ⟨gb244, 4, none⟩ = some (.int .i64 a0_4) := (blk_cell BK244.out 4).trans rfl
        have hcz25_5 : wr.cell? ⟨gb244, 5, none⟩ = some (.string a0_5) := (blk_cell BK244.out 5).trans rfl
        have hcz25_6 : wr.cell? ⟨gb244, 6, none⟩ = some (.slice A0_6 l0_6.length c0_6) := (blk_cell BK244.out 6).trans rfl
        have hcz25_7 : wr.cell? ⟨gb244, 7, none⟩ = some (.slice A0_7 l0_7.length c0_7) := (blk_cell BK244.out 7).trans rfl
        have hfz25_0 := blk_frozen BK244.out 0
        have hfz25_1 := blk_frozen BK244.out 1
        have hfz25_2 := blk_frozen BK244.out 2
        have hfz25_3 := blk_frozen BK244.out 3
        have hfz25_4 := blk_frozen BK244.out 4
        have hfz25_5 := blk_frozen BK244.out 5
        have hfz25_6 := blk_frozen BK244.out 6
        have hfz25_7 := blk_frozen BK244.out 7
        go_wp2
        go_ret
        exact ⟨by first | rfl | (simp [errW_none, errW_some] <;> rfl) | (simp [*, errW_none, errW_some] <;> rfl), by repeat (first | (with_reducible first | exact HB.out | apply below_alloc | apply pw_below_drewN | apply below_drew1 | refine below_set ?_ GE244.out) | exact HB.out)⟩
       rw [if_pos c20] at H
       have c20b0 : decide (0 ≤ x1_3) = true := decide_eq_true c20
       clear c20
       by_cases c21 : 0 ≤ x6_3
       rotate_left
       ·rw [if_neg c21] at H
        exact absurd H (by simp)
       rw [if_pos c21] at H
       have c21b0 : decide (0 ≤ x6_3) = true := decide_eq_true c21
       clear c21
       replace H := Option.bind_eq_some_iff.mp H
       obtain ⟨t247, A220, H⟩ := H
       replace H : (erratumlaw00_light.l1 k3 t247 (wrap64 (x6_3 + 1)) a0_0 a0_1 a0_2 l0_3 a0_4 a0_5 l0_6 l0_7) = some r := H
       have A22 := Aside0.mk A220
       clear A220
       have H' := Aside0.mk H
       clear H
       have hcz23_0 : wr.cell? ⟨gb244, 0, none⟩ = some (.int .i64 a0_0) := (blk_cell BK244.out 0).trans rfl
       have hcz23_1 : wr.cell? ⟨gb244, 1, none⟩ = some (.bool a0_1) := (blk_cell BK244.out 1).trans rfl
       have hcz23_2 : wr.cell? ⟨gb244, 2, none⟩ = some (.bool a0_2) := (blk_cell BK244.out 2).trans rfl
       have hcz23_3 : wr.cell? ⟨gb244, 3, none⟩ = some (.slice A0_3 l0_3.length c0_3) := (blk_cell BK244.out 3).trans rfl
       have hcz23_4 : wr.cell? ⟨gb244, 4, none⟩ = some (.int .i64 a0_4) := (blk_cell BK244.out 4).trans rfl
       have hcz23_5 : wr.cell? ⟨gb244, 5, none⟩ = some (.string a0_5) := (blk_cell BK244.out 5).trans rfl
       have hcz23_6 : wr.cell? ⟨gb244, 6, none⟩ = some (.slice A0_6 l0_6.length c0_6) := (blk_cell BK244.out 6).trans rfl
       have hcz23_7 : wr.cell? ⟨gb244, 7, none⟩ = some (.slice A0_7 l0_7.length c0_7) := (blk_cell BK244.out 7).trans rfl
       have hfz23_0 := blk_frozen BK244.out 0
       have hfz23_1 := blk_frozen BK244.out 1
       have hfz23_2 := blk_frozen BK244.out 2
       have hfz23_3 := blk_frozen BK244.out 3
       have hfz23_4 := blk_frozen BK244.out 4
       have hfz23_5 := blk_frozen BK244.out 5
       have hfz23_6 := blk_frozen BK244.out 6
       have hfz23_7 := blk_frozen BK244.out 7
       have p246 : 0 ≤ (x6_3 : Int) := of_decide_eq_true (by first | (with_reducible assumption) | assumption)
       have q246 : x6_3 < (l0_7.length : Int) := of_decide_eq_true (by first | (with_reducible assumption) | assumption)
       obtain ⟨ad246, A246_3, c246_3, A246_6, c246_6, A246_7, c246_7, e246, hx246_0, hx246_1, hx246_2, hx246_3, hx246_4, hx246_5, hx246_6, hx246_7, hl246_3, hi246_3, hl246_6, hi246_6, hl246_7, hi246_7⟩ := at_T50 HR0_7.out x6_3 p246 q246
       cases e246
       replace hx246_0 := (HB.out.cell (World.block_lt_of_cell? w _ hx246_0)).trans hx246_0
       replace hx246_1 := (HB.out.cell (World.block_lt_of_cell? w _ hx246_1)).trans hx246_1
       replace hx246_2 := (HB.out.cell (World.block_lt_of_cell? w _ hx246_2)).trans hx246_2
       replace hx246_3 := (HB.out.cell (World.block_lt_of_cell? w _ hx246_3)).trans hx246_3
       replace hx246_4 := (HB.out.cell (World.block_lt_of_cell? w _ hx246_4)).trans hx246_4
       replace hx246_5 := (HB.out.cell (World.block_lt_of_cell? w _ hx246_5)).trans hx246_5
       replace hx246_6 := (HB.out.cell (World.block_lt_of_cell? w _ hx246_6)).trans hx246_6
       replace hx246_7 := (HB.out.cell (World.block_lt_of_cell? w _ hx246_7)).trans hx246_7
       have HR246_3 := Aside0.mk hi246_3
       have HC246_3 := Aside0.mk hl246_3
       clear hi246_3 hl246_3
       have HR246_6 := Aside0.mk hi246_6
       have HC246_6 := Aside0.mk hl246_6
       clear hi246_6 hl246_6
       have HR246_7 := Aside0.mk hi246_7
       have HC246_7 := Aside0.mk hl246_7
       clear hi246_7 hl246_7
       replace p246 := eq_true p246
       replace q246 := eq_true q246
       go_wp2_with (first | ((with_reducible refine gate_callee (f := 41) rfl ?_); refine goesL_ (some 63) rfl rfl Try.func41 (by kernel_rfl) rfl #[.agg #[.int .i64 ((rd_T50 l0_7 x6_3).f0), .bool ((rd_T50 l0_7 x6_3).f1), .bool ((rd_T50 l0_7 x6_3).f2.f0), .slice A246_3 ((rd_T50 l0_7 x6_3).f2.f1).length c246_3, .int .i64 ((rd_T50 l0_7 x6_3).f2.f2), .string ((rd_T50 l0_7 x6_3).f3), .slice A246_6 ((rd_T50 l0_7 x6_3).f4).length c246_6, .slice A246_7 ((rd_T50 l0_7 x6_3).f5).length c246_7], .int .i64 x1_3] rfl (by (try simp only [List.map_toArray, List.map_cons, List.map_nil]); first | done | rfl | (simp only [List.length_drop, List.length_take]; rfl)) ?_; (with_reducible refine (ih k3 (by have := HJ2.out; have := HK2.out; have := HK3.out; omega) ((rd_T50 l0_7 x6_3).f0) ((rd_T50 l0_7 x6_3).f1) ((rd_T50 l0_7 x6_3).f2.f0) _ _ ((rd_T50 l0_7 x6_3).f2.f1) ((rd_T50 l0_7 x6_3).f2.f2) ((rd_T50 l0_7 x6_3).f3) _ _ ((rd_T50 l0_7 x6_3).f4) _ _ ((rd_T50 l0_7 x6_3).f5) x1_3 t247 _ ?side1 ?side2 ?side3 ?side4 ?side5 ?side6 A22.out).mono ?_); (case side1 => repeat (first | exact (Kd.C_below HR246_3.out HB.out) | (with_reducible refine Kd.C_alloc ?_ _) | (with_reducible refine Kd.C_drewN ?_ _) | (with_reducible refine Kd.C_drew ?_))); (case side2 => exact HC246_3.out); (case side3 => repeat (first | exact (Kd.C_below HR246_6.out HB.out) | (with_reducible refine Kd.C_alloc ?_ _) | (with_reducible refine Kd.C_drewN ?_ _) | (with_reducible refine Kd.C_drew ?_))); (case side4 => exact HC246_6.out); (case side5 => repeat (first | exact (Kd.C_below HR246_7.out HB.out) | (with_reducible refine Kd.C_alloc ?_ _) | (with_reducible refine Kd.C_drewN ?_ _) | (with_reducible refine Kd.C_drew ?_))); (case side6 => exact HC246_7.out); rintro e w24 ⟨rfl, hb⟩; refine ⟨_, rfl, ?_⟩; have n0_ := Aside0.mk (blk_below (g := gb244) (o := .cells #[.int .i64 a0_0, .bool a0_1, .bool a0_2, .slice A0_3 l0_3.length c0_3, .int .i64 a0_4, .string a0_5, .slice A0_6 l0_6.length c0_6, .slice (some ad246) l0_7.length c0_7] 50 (0, 0)) (by (with_reducible repeat (first | refine blk_drewN ?_ _ | refine blk_drew ?_ | refine blk_alloc ?_ _)); exact BK244.out) hb); have n1_ := Aside0.mk (below_step (by repeat (first | (with_reducible first | exact HB.out | apply below_alloc | apply pw_below_drewN | apply below_drew1 | refine below_set ?_ GE244.out) | exact HB.out)) hb); clear BK244; clear HB; have BK244 := n0_; have HB := n1_; clear n0_ n1_; (try clear hb); (try clear hb2); (try clear hk); (try clear hi)))
       go_roundg k3
       case measure => have := HJ2.out; have := HK2.out; have := HK3.out; omega
       case rel => exact ⟨(t247), (wrap64 (x6_3 + 1)), (by first | rfl | (simp; done) | (simp [*]; done)), (by first | rfl | (simp; done) | (simp [*]; done)), H', ⟨by have := HJ2.out; have := HK2.out; have := HK3.out; omega⟩, ⟨by (with_reducible repeat (first | refine blk_drewN ?_ _ | refine blk_drew ?_ | refine blk_alloc ?_ _)); exact BK244.out⟩, ⟨by repeat (first | (with_reducible first | exact HB.out | apply below_alloc | apply pw_below_drewN | apply below_drew1 | refine below_set ?_ GE244.out) | exact HB.out)⟩⟩
def erratumlaw00_Light.f (k : Nat) (a0_0 : Int) (a0_1 : Bool) (a0_2 : Bool) (l0_3 : List Int) (a0_4 : Int) (a0_5 : ByteArray) (l0_6 : List ByteArray) (l0_7 : List (S50)) (a1 : Int) : Option (Bool) := (erratumlaw00_light.f k a0_0 a0_1 a0_2 l0_3 a0_4 a0_5 l0_6 l0_7 a1).bind fun t249 => (some (decide (t249 ≥ 0)))
theorem erratumlaw00_Light.mono : ∀ a0 a1 a2 a3 a4 a5 a6 a7 a8 k, LeO (erratumlaw00_Light.f k a0 a1 a2 a3 a4 a5 a6 a7 a8) (erratumlaw00_Light.f (k + 1) a0 a1 a2 a3 a4 a5 a6 a7 a8) := by
 intro a0 a1 a2 a3 a4 a5 a6 a7 a8 k
 unfold erratumlaw00_Light.f
 repeat' first
   | (with_reducible exact erratumlaw00_light.mono _ _ _ _ _ _ _ _ _ _)
   | (with_reducible exact LeO.refl _)
   | (with_reducible exact LeO.none _)
   | (with_reducible refine LeO.ite ?_ ?_)
   | (with_reducible refine LeO.bind ?_ (fun _ => ?_))
   | exact erratumlaw00_light.mono _ _ _ _ _ _ _ _ _ _
   | exact LeO.none _
   | refine LeO.ite ?_ ?_
   | refine LeO.bind ?_ (fun _ => ?_)
set_option maxHeartbeats 8000000 in
set_option maxRecDepth 100000 in
theorem erratumlaw00_Light.calls (k : Nat) (a0_0 : Int) (a0_1 : Bool) (a0_2 : Bool) (A0_3 : Option Addr) (c0_3 : Nat) (l0_3 : List Int) (a0_4 : Int) (a0_5 : ByteArray) (A0_6 : Option Addr) (c0_6 : Nat) (l0_6 : List ByteArray) (A0_7 : Option Addr) (c0_7 : Nat) (l0_7 : List (S50)) (a1 : Int) (r : Bool) (w : World) (hr0_3 : Kd.C (Kd.int .u32) w A0_3 l0_3.length l0_3) (hc0_3 : l0_3.length ≤ c0_3) (hr0_6 : Kd.C Kd.string w A0_6 l0_6.length l0_6) (hc0_6 : l0_6.length ≤ c0_6) (hr0_7 : Kd.C k50 w A0_7 l0_7.length l0_7) (hc0_7 : l0_7.length ≤ c0_7) (h : erratumlaw00_Light.f k a0_0 a0_1 a0_2 l0_3 a0_4 a0_5 l0_6 l0_7 a1 = some r) :
  Calls Try.prog 22 #[.agg #[.int .i64 a0_0, .bool a0_1, .bool a0_2, .slice A0_3 l0_3.length c0_3, .int .i64 a0_4, .string a0_5, .slice A0_6 l0_6.length c0_6, .slice A0_7 l0_7.length c0_7], .int .i64 a1] w fun e w' => e = .returned (.bool r) ∧ Below w.heap.size w w' := by
 have hu50 := Try.underlying50
 have HR0_3 := Aside0.mk hr0_3
 have HC0_3 := Aside0.mk hc0_3
 clear hr0_3 hc0_3
 have HR0_6 := Aside0.mk hr0_6
 have HC0_6 := Aside0.mk hc0_6
 clear hr0_6 hc0_6
 have HR0_7 := Aside0.mk hr0_7
 have HC0_7 := Aside0.mk hc0_7
 clear hr0_7 hc0_7
 have HB := Aside0.mk (Below.refl w.heap.size w)
 have H : ((erratumlaw00_light.f k a0_0 a0_1 a0_2 l0_3 a0_4 a0_5 l0_6 l0_7 a1).bind fun t249 => (some (decide (t249 ≥ 0)))) = some r := h
 clear h
 replace H := Option.bind_eq_some_iff.mp H
 obtain ⟨t249, A30, H⟩ := H
 replace H : (some (decide (t249 ≥ 0))) = some r := H
 have A3 := Aside0.mk A30
 clear A30
 obtain rfl := Option.some.inj H
 go_enter Try.func22, Try.ntmps22
 go_wp2_with (first | ((with_reducible refine gate_dst (N := 2) rfl ?_); refine box_event ?hg (N := 2) ?hd (cs := #[.int .i64 a0_0, .bool a0_1, .bool a0_2, .slice A0_3 l0_3.length c0_3, .int .i64 a0_4, .string a0_5, .slice A0_6 l0_6.length c0_6, .slice A0_7 l0_7.length c0_7]) (t := 50) ?hr ?_; (case hd => rfl); (case hg => rfl); (case hr => first | (go_simp; done) | (go_simp; rfl)); intro gb248 hg w4 hbox hb; have n0_ := Aside0.mk (below_step (by repeat (first | (with_reducible first | exact HB.out | apply below_alloc | apply pw_below_drewN | apply below_drew1) | exact HB.out)) hb); have n1_ := Aside0.mk (hbox); have n2_ := Aside0.mk ((by rw [hg]; exact (below_size (by repeat (first | (with_reducible first | exact HB.out | apply below_alloc | apply pw_below_drewN | apply below_drew1) | exact HB.out))) : w.heap.size ≤ gb248)); have n3_ := Aside0.mk ((by rw [hg]; exact (below_size (by repeat (first | (with_reducible first | exact HB.out | apply below_alloc | apply pw_below_drewN | apply below_drew1) | exact HB.out))) : w.heap.size ≤ gb248)); clear HB; have HB := n0_; have BK248 := n1_; have GW248 := n2_; have GE248 := n3_; clear n0_ n1_ n2_ n3_; clear hb hbox hg; have hcz5_0 : w4.cell? ⟨gb248, 0, none⟩ = some (.int .i64 a0_0) := (blk_cell BK248.out 0).trans rfl; have hcz5_1 : w4.cell? ⟨gb248, 1, none⟩ = some (.bool a0_1) := (blk_cell BK248.out 1).trans rfl; have hcz5_2 : w4.cell? ⟨gb248, 2, none⟩ = some (.bool a0_2) := (blk_cell BK248.out 2).trans rfl; have hcz5_3 : w4.cell? ⟨gb248, 3, none⟩ = some (.slice A0_3 l0_3.length c0_3) := (blk_cell BK248.out 3).trans rfl; have hcz5_4 : w4.cell? ⟨gb248, 4, none⟩ = some (.int .i64 a0_4) := (blk_cell BK248.out 4).trans rfl; have hcz5_5 : w4.cell? ⟨gb248, 5, none⟩ = some (.string a0_5) := (blk_cell BK248.out 5).trans rfl; have hcz5_6 : w4.cell? ⟨gb248, 6, none⟩ = some (.slice A0_6 l0_6.length c0_6) := (blk_cell BK248.out 6).trans rfl; have hcz5_7 : w4.cell? ⟨gb248, 7, none⟩ = some (.slice A0_7 l0_7.length c0_7) := (blk_cell BK248.out 7).trans rfl; have hfz5_0 := blk_frozen BK248.out 0; have hfz5_1 := blk_frozen BK248.out 1; have hfz5_2 := blk_frozen BK248.out 2; have hfz5_3 := blk_frozen BK248.out 3; have hfz5_4 := blk_frozen BK248.out 4; have hfz5_5 := blk_frozen BK248.out 5; have hfz5_6 := blk_frozen BK248.out 6; have hfz5_7 := blk_frozen BK248.out 7) | ((with_reducible refine gate_callee (f := 41) rfl ?_); refine goesL_ (some 7) rfl rfl Try.func41 (by kernel_rfl) rfl #[.agg #[.int .i64 a0_0, .bool a0_1, .bool a0_2, .slice A0_3 l0_3.length c0_3, .int .i64 a0_4, .string a0_5, .slice A0_6 l0_6.length c0_6, .slice A0_7 l0_7.length c0_7], .int .i64 a1] rfl (by (try simp only [List.map_toArray, List.map_cons, List.map_nil]); first | done | rfl | (simp only [List.length_drop, List.length_take]; rfl)) ?_; (with_reducible refine (erratumlaw00_light.calls k a0_0 a0_1 a0_2 _ _ l0_3 a0_4 a0_5 _ _ l0_6 _ _ l0_7 a1 t249 _ ?side1 ?side2 ?side3 ?side4 ?side5 ?side6 A3.out).mono ?_); (case side1 => repeat (first | exact (Kd.C_below HR0_3.out HB.out) | (with_reducible refine Kd.C_alloc ?_ _) | (with_reducible refine Kd.C_drewN ?_ _) | (with_reducible refine Kd.C_drew ?_))); (case side2 => exact HC0_3.out); (case side3 => repeat (first | exact (Kd.C_below HR0_6.out HB.out) | (with_reducible refine Kd.C_alloc ?_ _) | (with_reducible refine Kd.C_drewN ?_ _) | (with_reducible refine Kd.C_drew ?_))); (case side4 => exact HC0_6.out); (case side5 => repeat (first | exact (Kd.C_below HR0_7.out HB.out) | (with_reducible refine Kd.C_alloc ?_ _) | (with_reducible refine Kd.C_drewN ?_ _) | (with_reducible refine Kd.C_drew ?_))); (case side6 => exact HC0_7.out); rintro e w6 ⟨rfl, hb⟩; refine ⟨_, rfl, ?_⟩; have n0_ := Aside0.mk (blk_below (g := gb248) (o := .cells #[.int .i64 a0_0, .bool a0_1, .bool a0_2, .slice A0_3 l0_3.length c0_3, .int .i64 a0_4, .string a0_5, .slice A0_6 l0_6.length c0_6, .slice A0_7 l0_7.length c0_7] 50 (0, 0)) (by (with_reducible repeat (first | refine blk_drewN ?_ _ | refine blk_drew ?_ | refine blk_alloc ?_ _)); exact BK248.out) hb); have n1_ := Aside0.mk (below_step (by repeat (first | (with_reducible first | exact HB.out | apply below_alloc | apply pw_below_drewN | apply below_drew1 | refine below_set ?_ GE248.out) | exact HB.out)) hb); clear BK248; clear HB; have BK248 := n0_; have HB := n1_; clear n0_ n1_; (try clear hb); (try clear hb2); (try clear hk); (try clear hi)))
 go_ret
 exact ⟨by first | rfl | (simp [errW_none, errW_some] <;> rfl) | (simp [*, errW_none, errW_some] <;> rfl), by repeat (first | (with_reducible first | exact HB.out | apply below_alloc | apply pw_below_drewN | apply below_drew1 | refine below_set ?_ GE248.out) | exact HB.out)⟩
end Go.Proofs.Ytpamgedmgjfjjaa.M
