/-
Lemmas for FrameAll, for every input they speak of: XSameA, XFBackW, XFAllP, XFAll.
-/
import Derived.Test.YtpamgedmgjfjjaaDoorKFrameAll02
import Derived.Test.YtpamgedmgjfjjaaDoorKFrameAll11
import Derived.Test.YtpamgedmgjfjjaaDoorKFrameAll08
import Derived.Test.YtpamgedmgjfjjaaDoorKFrameAll14
import Derived.Test.YtpamgedmgjfjjaaDoorKFrameAll15
import Derived.Test.YtpamgedmgjfjjaaDoorKFrameAll16
import Derived.Deep.RegionHeld3
section
namespace Go.Proofs.YtpamgedmgjfjjaaDoor.M
open Go.RowKit Go.Proofs.YtpamgedmgjfjjaaDoorW.PrintWords Go.Proofs.YtpamgedmgjfjjaaDoorW.PrintLast Go.Proofs.YtpamgedmgjfjjaaDoorW.PrintMore
attribute [local go_sem] max2_int min2_int max_two min_two max_three min_three max_four min_four
set_option linter.unusedVariables false
set_option linter.unusedSimpArgs false
def erratumlaw00_SameAnswer.f (a0_0 : Int) (a0_1 : Int) (a0_2 : Int) (a0_3 : ByteArray) (a1_0 : Int) (a1_1 : Int) (a1_2 : Int) (a1_3 : ByteArray) : Option (Bool) := if a0_0 = a1_0 then (if a0_1 = a1_1 then (if a0_2 = a1_2 then (some (a0_3.toList == a1_3.toList)) else (some false)) else (some false)) else (some false)
set_option maxHeartbeats 8000000 in
set_option maxRecDepth 100000 in
theorem erratumlaw00_SameAnswer.calls (a0_0 : Int) (a0_1 : Int) (a0_2 : Int) (a0_3 : ByteArray) (a1_0 : Int) (a1_1 : Int) (a1_2 : Int) (a1_3 : ByteArray) (r : Bool) (w : World) (h : erratumlaw00_SameAnswer.f a0_0 a0_1 a0_2 a0_3 a1_0 a1_1 a1_2 a1_3 = some r) :
    Calls Tryd.prog 38 #[.agg #[.int .i64 a0_0, .int .i64 a0_1, .int .i64 a0_2, .string a0_3], .agg #[.int .i64 a1_0, .int .i64 a1_1, .int .i64 a1_2, .string a1_3]] w fun e w' => e = .returned (.bool r) ∧ Below w.heap.size w w' := by
  have hu32 := Tryd.underlying32
  have HB := Aside0.mk (Below.refl w.heap.size w)
  have H : (if a0_0 = a1_0 then (if a0_1 = a1_1 then (if a0_2 = a1_2 then (some (a0_3.toList == a1_3.toList)) else (some false)) else (some false)) else (some false)) = some r := h
  clear h
  by_cases c3 : a0_0 = a1_0
  · rw [if_pos c3] at H
    have c3b0 : (a0_0 == a1_0) = true := beq_iff_eq.mpr c3
    have c3b1 : (a0_0 != a1_0) = false := bne_eq_false_iff_eq.mpr c3
    clear c3
    by_cases c4 : a0_1 = a1_1
    · rw [if_pos c4] at H
      have c4b0 : (a0_1 == a1_1) = true := beq_iff_eq.mpr c4
      have c4b1 : (a0_1 != a1_1) = false := bne_eq_false_iff_eq.mpr c4
      clear c4
      by_cases c5 : a0_2 = a1_2
      · rw [if_pos c5] at H
        have c5b0 : (a0_2 == a1_2) = true := beq_iff_eq.mpr c5
        have c5b1 : (a0_2 != a1_2) = false := bne_eq_false_iff_eq.mpr c5
        clear c5
        obtain rfl := Option.some.inj H
        go_enter Tryd.func38, Tryd.ntmps38
        go_wp2_with (first | ((with_reducible refine gate_dst (N := 2) rfl ?_); refine box_event ?hg (N := 2) ?hd (cs := #[.int .i64 a0_0, .int .i64 a0_1, .int .i64 a0_2, .string a0_3]) (t := 32) ?hr ?_; (case hd => rfl); (case hg => rfl); (case hr => first | (go_simp; done) | (go_simp; rfl)); intro gb268 hg w6 hbox hb; have n0_ := Aside0.mk (below_step (by repeat (first | (with_reducible first | exact HB.out | apply below_alloc | apply pw_below_drewN | apply below_drew1) | exact HB.out)) hb); have n1_ := Aside0.mk (hbox); have n2_ := Aside0.mk ((by rw [hg]; exact (below_size (by repeat (first | (with_reducible first | exact HB.out | apply below_alloc | apply pw_below_drewN | apply below_drew1) | exact HB.out))) : w.heap.size ≤ gb268)); have n3_ := Aside0.mk ((by rw [hg]; exact (below_size (by repeat (first | (with_reducible first | exact HB.out | apply below_alloc | apply pw_below_drewN | apply below_drew1) | exact HB.out))) : w.heap.size ≤ gb268)); clear HB; have HB := n0_; have BK268 := n1_; have GW268 := n2_; have GE268 := n3_; clear n0_ n1_ n2_ n3_; clear hb hbox hg) | ((with_reducible refine gate_dst (N := 3) rfl ?_); refine box_event ?hg (N := 3) ?hd (cs := #[.int .i64 a1_0, .int .i64 a1_1, .int .i64 a1_2, .string a1_3]) (t := 32) ?hr ?_; (case hd => rfl); (case hg => rfl); (case hr => first | (go_simp; done) | (go_simp; rfl)); intro gb269 hg w7 hbox hb; have n0_ := Aside0.mk (blk_below (g := gb268) (o := .cells #[.int .i64 a0_0, .int .i64 a0_1, .int .i64 a0_2, .string a0_3] 32 (0, 0)) (by (with_reducible repeat (first | refine blk_drewN ?_ _ | refine blk_drew ?_ | refine blk_alloc ?_ _)); exact BK268.out) hb); have n1_ := Aside0.mk (below_step (by repeat (first | (with_reducible first | exact HB.out | apply below_alloc | apply pw_below_drewN | apply below_drew1 | refine below_set ?_ GE268.out) | exact HB.out)) hb); have n2_ := Aside0.mk (hbox); have n3_ := Aside0.mk ((by rw [hg]; exact (below_size (by repeat (first | (with_reducible first | exact HB.out | apply below_alloc | apply pw_below_drewN | apply below_drew1 | refine below_set ?_ GE268.out) | exact HB.out))) : w.heap.size ≤ gb269)); have n4_ := Aside0.mk ((by rw [hg]; exact (below_size (by repeat (first | (with_reducible first | exact HB.out | apply below_alloc | apply pw_below_drewN | apply below_drew1 | refine below_set ?_ GE268.out) | exact HB.out))) : w.heap.size ≤ gb269)); have n5_ := Aside0.mk ((by rw [hg]; exact Nat.ne_of_lt (blk_lt (g := gb268) (o := .cells #[.int .i64 a0_0, .int .i64 a0_1, .int .i64 a0_2, .string a0_3] 32 (0, 0)) (by (with_reducible repeat (first | refine blk_drewN ?_ _ | refine blk_drew ?_ | refine blk_alloc ?_ _)); exact BK268.out)) : gb268 ≠ gb269)); have n6_ := Aside0.mk ((by rw [hg]; exact Nat.ne_of_gt (blk_lt (g := gb268) (o := .cells #[.int .i64 a0_0, .int .i64 a0_1, .int .i64 a0_2, .string a0_3] 32 (0, 0)) (by (with_reducible repeat (first | refine blk_drewN ?_ _ | refine blk_drew ?_ | refine blk_alloc ?_ _)); exact BK268.out)) : gb269 ≠ gb268)); clear BK268; clear HB; have BK268 := n0_; have HB := n1_; have BK269 := n2_; have GW269 := n3_; have GE269 := n4_; have NB268_269 := n5_; have NB269_268 := n6_; clear n0_ n1_ n2_ n3_ n4_ n5_ n6_; clear hb hbox hg; have hnb8 := NB268_269.out; have hnc8 := NB269_268.out; have hcz9_0 : w7.cell? ⟨gb268, 0, none⟩ = some (.int .i64 a0_0) := (blk_cell BK268.out 0).trans rfl; have hcz9_1 : w7.cell? ⟨gb268, 1, none⟩ = some (.int .i64 a0_1) := (blk_cell BK268.out 1).trans rfl; have hcz9_2 : w7.cell? ⟨gb268, 2, none⟩ = some (.int .i64 a0_2) := (blk_cell BK268.out 2).trans rfl; have hcz9_3 : w7.cell? ⟨gb268, 3, none⟩ = some (.string a0_3) := (blk_cell BK268.out 3).trans rfl; have hfz9_0 := blk_frozen BK268.out 0; have hfz9_1 := blk_frozen BK268.out 1; have hfz9_2 := blk_frozen BK268.out 2; have hfz9_3 := blk_frozen BK268.out 3; have hcz10_0 : w7.cell? ⟨gb269, 0, none⟩ = some (.int .i64 a1_0) := (blk_cell BK269.out 0).trans rfl; have hcz10_1 : w7.cell? ⟨gb269, 1, none⟩ = some (.int .i64 a1_1) := (blk_cell BK269.out 1).trans rfl; have hcz10_2 : w7.cell? ⟨gb269, 2, none⟩ = some (.int .i64 a1_2) := (blk_cell BK269.out 2).trans rfl; have hcz10_3 : w7.cell? ⟨gb269, 3, none⟩ = some (.string a1_3) := (blk_cell BK269.out 3).trans rfl; have hfz10_0 := blk_frozen BK269.out 0; have hfz10_1 := blk_frozen BK269.out 1; have hfz10_2 := blk_frozen BK269.out 2; have hfz10_3 := blk_frozen BK269.out 3))
        go_ret
        exact ⟨by first | rfl | (simp [errW_none, errW_some] <;> rfl) | (simp [*, errW_none, errW_some] <;> rfl), by repeat (first | (with_reducible first | exact HB.out | apply below_alloc | apply pw_below_drewN | apply below_drew1 | refine below_set ?_ GE268.out | refine below_set ?_ GE269.out) | exact HB.out)⟩
      · rw [if_neg c5] at H
        have c5b0 : (a0_2 == a1_2) = false := beq_eq_false_iff_ne.mpr c5
        have c5b1 : (a0_2 != a1_2) = true := bne_iff_ne.mpr c5
        obtain rfl := Option.some.inj H
        go_enter Tryd.func38, Tryd.ntmps38
        go_wp2_with (first | ((with_reducible refine gate_dst (N := 2) rfl ?_); refine box_event ?hg (N := 2) ?hd (cs := #[.int .i64 a0_0, .int .i64 a0_1, .int .i64 a0_2, .string a0_3]) (t := 32) ?hr ?_; (case hd => rfl); (case hg => rfl); (case hr => first | (go_simp; done) | (go_simp; rfl)); intro gb268 hg w11 hbox hb; have n0_ := Aside0.mk (below_step (by repeat (first | (with_reducible first | exact HB.out | apply below_alloc | apply pw_below_drewN | apply below_drew1) | exact HB.out)) hb); have n1_ := Aside0.mk (hbox); have n2_ := Aside0.mk ((by rw [hg]; exact (below_size (by repeat (first | (with_reducible first | exact HB.out | apply below_alloc | apply pw_below_drewN | apply below_drew1) | exact HB.out))) : w.heap.size ≤ gb268)); have n3_ := Aside0.mk ((by rw [hg]; exact (below_size (by repeat (first | (with_reducible first | exact HB.out | apply below_alloc | apply pw_below_drewN | apply below_drew1) | exact HB.out))) : w.heap.size ≤ gb268)); clear HB; have HB := n0_; have BK268 := n1_; have GW268 := n2_; have GE268 := n3_; clear n0_ n1_ n2_ n3_; clear hb hbox hg) | ((with_reducible refine gate_dst (N := 3) rfl ?_); refine box_event ?hg (N := 3) ?hd (cs := #[.int .i64 a1_0, .int .i64 a1_1, .int .i64 a1_2, .string a1_3]) (t := 32) ?hr ?_; (case hd => rfl); (case hg => rfl); (case hr => first | (go_simp; done) | (go_simp; rfl)); intro gb269 hg w12 hbox hb; have n0_ := Aside0.mk (blk_below (g := gb268) (o := .cells #[.int .i64 a0_0, .int .i64 a0_1, .int .i64 a0_2, .string a0_3] 32 (0, 0)) (by (with_reducible repeat (first | refine blk_drewN ?_ _ | refine blk_drew ?_ | refine blk_alloc ?_ _)); exact BK268.out) hb); have n1_ := Aside0.mk (below_step (by repeat (first | (with_reducible first | exact HB.out | apply below_alloc | apply pw_below_drewN | apply below_drew1 | refine below_set ?_ GE268.out) | exact HB.out)) hb); have n2_ := Aside0.mk (hbox); have n3_ := Aside0.mk ((by rw [hg]; exact (below_size (by repeat (first | (with_reducible first | exact HB.out | apply below_alloc | apply pw_below_drewN | apply below_drew1 | refine below_set ?_ GE268.out) | exact HB.out))) : w.heap.size ≤ gb269)); have n4_ := Aside0.mk ((by rw [hg]; exact (below_size (by repeat (first | (with_reducible first | exact HB.out | apply below_alloc | apply pw_below_drewN | apply below_drew1 | refine below_set ?_ GE268.out) | exact HB.out))) : w.heap.size ≤ gb269)); have n5_ := Aside0.mk ((by rw [hg]; exact Nat.ne_of_lt (blk_lt (g := gb268) (o := .cells #[.int .i64 a0_0, .int .i64 a0_1, .int .i64 a0_2, .string a0_3] 32 (0, 0)) (by (with_reducible repeat (first | refine blk_drewN ?_ _ | refine blk_drew ?_ | refine blk_alloc ?_ _)); exact BK268.out)) : gb268 ≠ gb269)); have n6_ := Aside0.mk ((by rw [hg]; exact Nat.ne_of_gt (blk_lt (g := gb268) (o := .cells #[.int .i64 a0_0, .int .i64 a0_1, .int .i64 a0_2, .string a0_3] 32 (0, 0)) (by (with_reducible repeat (first | refine blk_drewN ?_ _ | refine blk_drew ?_ | refine blk_alloc ?_ _)); exact BK268.out)) : gb269 ≠ gb268)); clear BK268; clear HB; have BK268 := n0_; have HB := n1_; have BK269 := n2_; have GW269 := n3_; have GE269 := n4_; have NB268_269 := n5_; have NB269_268 := n6_; clear n0_ n1_ n2_ n3_ n4_ n5_ n6_; clear hb hbox hg; have hnb13 := NB268_269.out; have hnc13 := NB269_268.out; have hcz14_0 : w12.cell? ⟨gb268, 0, none⟩ = some (.int .i64 a0_0) := (blk_cell BK268.out 0).trans rfl; have hcz14_1 : w12.cell? ⟨gb268, 1, none⟩ = some (.int .i64 a0_1) := (blk_cell BK268.out 1).trans rfl; have hcz14_2 : w12.cell? ⟨gb268, 2, none⟩ = some (.int .i64 a0_2) := (blk_cell BK268.out 2).trans rfl; have hcz14_3 : w12.cell? ⟨gb268, 3, none⟩ = some (.string a0_3) := (blk_cell BK268.out 3).trans rfl; have hfz14_0 := blk_frozen BK268.out 0; have hfz14_1 := blk_frozen BK268.out 1; have hfz14_2 := blk_frozen BK268.out 2; have hfz14_3 := blk_frozen BK268.out 3; have hcz15_0 : w12.cell? ⟨gb269, 0, none⟩ = some (.int .i64 a1_0) := (blk_cell BK269.out 0).trans rfl; have hcz15_1 : w12.cell? ⟨gb269, 1, none⟩ = some (.int .i64 a1_1) := (blk_cell BK269.out 1).trans rfl; have hcz15_2 : w12.cell? ⟨gb269, 2, none⟩ = some (.int .i64 a1_2) := (blk_cell BK269.out 2).trans rfl; have hcz15_3 : w12.cell? ⟨gb269, 3, none⟩ = some (.string a1_3) := (blk_cell BK269.out 3).trans rfl; have hfz15_0 := blk_frozen BK269.out 0; have hfz15_1 := blk_frozen BK269.out 1; have hfz15_2 := blk_frozen BK269.out 2; have hfz15_3 := blk_frozen BK269.out 3))
        go_ret
        exact ⟨by first | rfl | (simp [errW_none, errW_some] <;> rfl) | (simp [*, errW_none, errW_some] <;> rfl), by repeat (first | (with_reducible first | exact HB.out | apply below_alloc | apply pw_below_drewN | apply below_drew1 | refine below_set ?_ GE268.out | refine below_set ?_ GE269.out) | exact HB.out)⟩
    · rw [if_neg c4] at H
      have c4b0 : (a0_1 == a1_1) = false := beq_eq_false_iff_ne.mpr c4
      have c4b1 : (a0_1 != a1_1) = true := bne_iff_ne.mpr c4
      obtain rfl := Option.some.inj H
      go_enter Tryd.func38, Tryd.ntmps38
      go_wp2_with (first | ((with_reducible refine gate_dst (N := 2) rfl ?_); refine box_event ?hg (N := 2) ?hd (cs := #[.int .i64 a0_0, .int .i64 a0_1, .int .i64 a0_2, .string a0_3]) (t := 32) ?hr ?_; (case hd => rfl); (case hg => rfl); (case hr => first | (go_simp; done) | (go_simp; rfl)); intro gb268 hg w16 hbox hb; have n0_ := Aside0.mk (below_step (by repeat (first | (with_reducible first | exact HB.out | apply below_alloc | apply pw_below_drewN | apply below_drew1) | exact HB.out)) hb); have n1_ := Aside0.mk (hbox); have n2_ := Aside0.mk ((by rw [hg]; exact (below_size (by repeat (first | (with_reducible first | exact HB.out | apply below_alloc | apply pw_below_drewN | apply below_drew1) | exact HB.out))) : w.heap.size ≤ gb268)); have n3_ := Aside0.mk ((by rw [hg]; exact (below_size (by repeat (first | (with_reducible first | exact HB.out | apply below_alloc | apply pw_below_drewN | apply below_drew1) | exact HB.out))) : w.heap.size ≤ gb268)); clear HB; have HB := n0_; have BK268 := n1_; have GW268 := n2_; have GE268 := n3_; clear n0_ n1_ n2_ n3_; clear hb hbox hg) | ((with_reducible refine gate_dst (N := 3) rfl ?_); refine box_event ?hg (N := 3) ?hd (cs := #[.int .i64 a1_0, .int .i64 a1_1, .int .i64 a1_2, .string a1_3]) (t := 32) ?hr ?_; (case hd => rfl); (case hg => rfl); (case hr => first | (go_simp; done) | (go_simp; rfl)); intro gb269 hg w17 hbox hb; have n0_ := Aside0.mk (blk_below (g := gb268) (o := .cells #[.int .i64 a0_0, .int .i64 a0_1, .int .i64 a0_2, .string a0_3] 32 (0, 0)) (by (with_reducible repeat (first | refine blk_drewN ?_ _ | refine blk_drew ?_ | refine blk_alloc ?_ _)); exact BK268.out) hb); have n1_ := Aside0.mk (below_step (by repeat (first | (with_reducible first | exact HB.out | apply below_alloc | apply pw_below_drewN | apply below_drew1 | refine below_set ?_ GE268.out) | exact HB.out)) hb); have n2_ := Aside0.mk (hbox); have n3_ := Aside0.mk ((by rw [hg]; exact (below_size (by repeat (first | (with_reducible first | exact HB.out | apply below_alloc | apply pw_below_drewN | apply below_drew1 | refine below_set ?_ GE268.out) | exact HB.out))) : w.heap.size ≤ gb269)); have n4_ := Aside0.mk ((by rw [hg]; exact (below_size (by repeat (first | (with_reducible first | exact HB.out | apply below_alloc | apply pw_below_drewN | apply below_drew1 | refine below_set ?_ GE268.out) | exact HB.out))) : w.heap.size ≤ gb269)); have n5_ := Aside0.mk ((by rw [hg]; exact Nat.ne_of_lt (blk_lt (g := gb268) (o := .cells #[.int .i64 a0_0, .int .i64 a0_1, .int .i64 a0_2, .string a0_3] 32 (0, 0)) (by (with_reducible repeat (first | refine blk_drewN ?_ _ | refine blk_drew ?_ | refine blk_alloc ?_ _)); exact BK268.out)) : gb268 ≠ gb269)); have n6_ := Aside0.mk ((by rw [hg]; exact Nat.ne_of_gt (blk_lt (g := gb268) (o := .cells #[.int .i64 a0_0, .int .i64 a0_1, .int .i64 a0_2, .string a0_3] 32 (0, 0)) (by (with_reducible repeat (first | refine blk_drewN ?_ _ | refine blk_drew ?_ | refine blk_alloc ?_ _)); exact BK268.out)) : gb269 ≠ gb268)); clear BK268; clear HB; have BK268 := n0_; have HB := n1_; have BK269 := n2_; have GW269 := n3_; have GE269 := n4_; have NB268_269 := n5_; have NB269_268 := n6_; clear n0_ n1_ n2_ n3_ n4_ n5_ n6_; clear hb hbox hg; have hnb18 := NB268_269.out; have hnc18 := NB269_268.out; have hcz19_0 : w17.cell? ⟨gb268, 0, none⟩ = some (.int .i64 a0_0) := (blk_cell BK268.out 0).trans rfl; have hcz19_1 : w17.cell? ⟨gb268, 1, none⟩ = some (.int .i64 a0_1) := (blk_cell BK268.out 1).trans rfl; have hcz19_2 : w17.cell? ⟨gb268, 2, none⟩ = some (.int .i64 a0_2) := (blk_cell BK268.out 2).trans rfl; have hcz19_3 : w17.cell? ⟨gb268, 3, none⟩ = some (.string a0_3) := (blk_cell BK268.out 3).trans rfl; have hfz19_0 := blk_frozen BK268.out 0; have hfz19_1 := blk_frozen BK268.out 1; have hfz19_2 := blk_frozen BK268.out 2; have hfz19_3 := blk_frozen BK268.out 3; have hcz20_0 : w17.cell? ⟨gb269, 0, none⟩ = some (.int .i64 a1_0) := (blk_cell BK269.out 0).trans rfl; have hcz20_1 : w17.cell? ⟨gb269, 1, none⟩ = some (.int .i64 a1_1) := (blk_cell BK269.out 1).trans rfl; have hcz20_2 : w17.cell? ⟨gb269, 2, none⟩ = some (.int .i64 a1_2) := (blk_cell BK269.out 2).trans rfl; have hcz20_3 : w17.cell? ⟨gb269, 3, none⟩ = some (.string a1_3) := (blk_cell BK269.out 3).trans rfl; have hfz20_0 := blk_frozen BK269.out 0; have hfz20_1 := blk_frozen BK269.out 1; have hfz20_2 := blk_frozen BK269.out 2; have hfz20_3 := blk_frozen BK269.out 3))
      go_ret
      exact ⟨by first | rfl | (simp [errW_none, errW_some] <;> rfl) | (simp [*, errW_none, errW_some] <;> rfl), by repeat (first | (with_reducible first | exact HB.out | apply below_alloc | apply pw_below_drewN | apply below_drew1 | refine below_set ?_ GE268.out | refine below_set ?_ GE269.out) | exact HB.out)⟩
  · rw [if_neg c3] at H
    have c3b0 : (a0_0 == a1_0) = false := beq_eq_false_iff_ne.mpr c3
    have c3b1 : (a0_0 != a1_0) = true := bne_iff_ne.mpr c3
    obtain rfl := Option.some.inj H
    go_enter Tryd.func38, Tryd.ntmps38
    go_wp2_with (first | ((with_reducible refine gate_dst (N := 2) rfl ?_); refine box_event ?hg (N := 2) ?hd (cs := #[.int .i64 a0_0, .int .i64 a0_1, .int .i64 a0_2, .string a0_3]) (t := 32) ?hr ?_; (case hd => rfl); (case hg => rfl); (case hr => first | (go_simp; done) | (go_simp; rfl)); intro gb268 hg w21 hbox hb; have n0_ := Aside0.mk (below_step (by repeat (first | (with_reducible first | exact HB.out | apply below_alloc | apply pw_below_drewN | apply below_drew1) | exact HB.out)) hb); have n1_ := Aside0.mk (hbox); have n2_ := Aside0.mk ((by rw [hg]; exact (below_size (by repeat (first | (with_reducible first | exact HB.out | apply below_alloc | apply pw_below_drewN | apply below_drew1) | exact HB.out))) : w.heap.size ≤ gb268)); have n3_ := Aside0.mk ((by rw [hg]; exact (below_size (by repeat (first | (with_reducible first | exact HB.out | apply below_alloc | apply pw_below_drewN | apply below_drew1) | exact HB.out))) : w.heap.size ≤ gb268)); clear HB; have HB := n0_; have BK268 := n1_; have GW268 := n2_; have GE268 := n3_; clear n0_ n1_ n2_ n3_; clear hb hbox hg) | ((with_reducible refine gate_dst (N := 3) rfl ?_); refine box_event ?hg (N := 3) ?hd (cs := #[.int .i64 a1_0, .int .i64 a1_1, .int .i64 a1_2, .string a1_3]) (t := 32) ?hr ?_; (case hd => rfl); (case hg => rfl); (case hr => first | (go_simp; done) | (go_simp; rfl)); intro gb269 hg w22 hbox hb; have n0_ := Aside0.mk (blk_below (g := gb268) (o := .cells #[.int .i64 a0_0, .int .i64 a0_1, .int .i64 a0_2, .string a0_3] 32 (0, 0)) (by (with_reducible repeat (first | refine blk_drewN ?_ _ | refine blk_drew ?_ | refine blk_alloc ?_ _)); exact BK268.out) hb); have n1_ := Aside0.mk (below_step (by repeat (first | (with_reducible first | exact HB.out | apply below_alloc | apply pw_below_drewN | apply below_drew1 | refine below_set ?_ GE268.out) | exact HB.out)) hb); have n2_ := Aside0.mk (hbox); have n3_ := Aside0.mk ((by rw [hg]; exact (below_size (by repeat (first | (with_reducible first | exact HB.out | apply below_alloc | apply pw_below_drewN | apply below_drew1 | refine below_set ?_ GE268.out) | exact HB.out))) : w.heap.size ≤ gb269)); have n4_ := Aside0.mk ((by rw [hg]; exact (below_size (by repeat (first | (with_reducible first | exact HB.out | apply below_alloc | apply pw_below_drewN | apply below_drew1 | refine below_set ?_ GE268.out) | exact HB.out))) : w.heap.size ≤ gb269)); have n5_ := Aside0.mk ((by rw [hg]; exact Nat.ne_of_lt (blk_lt (g := gb268) (o := .cells #[.int .i64 a0_0, .int .i64 a0_1, .int .i64 a0_2, .string a0_3] 32 (0, 0)) (by (with_reducible repeat (first | refine blk_drewN ?_ _ | refine blk_drew ?_ | refine blk_alloc ?_ _)); exact BK268.out)) : gb268 ≠ gb269)); have n6_ := Aside0.mk ((by rw [hg]; exact Nat.ne_of_gt (blk_lt (g := gb268) (o := .cells #[.int .i64 a0_0, .int .i64 a0_1, .int .i64 a0_2, .string a0_3] 32 (0, 0)) (by (with_reducible repeat (first | refine blk_drewN ?_ _ | refine blk_drew ?_ | refine blk_alloc ?_ _)); exact BK268.out)) : gb269 ≠ gb268)); clear BK268; clear HB; have BK268 := n0_; have HB := n1_; have BK269 := n2_; have GW269 := n3_; have GE269 := n4_; have NB268_269 := n5_; have NB269_268 := n6_; clear n0_ n1_ n2_ n3_ n4_ n5_ n6_; clear hb hbox hg; have hnb23 := NB268_269.out; have hnc23 := NB269_268.out; have hcz24_0 : w22.cell? ⟨gb268, 0, none⟩ = some (.int .i64 a0_0) := (blk_cell BK268.out 0).trans rfl; have hcz24_1 : w22.cell? ⟨gb268, 1, none⟩ = some (.int .i64 a0_1) := (blk_cell BK268.out 1).trans rfl; have hcz24_2 : w22.cell? ⟨gb268, 2, none⟩ = some (.int .i64 a0_2) := (blk_cell BK268.out 2).trans rfl; have hcz24_3 : w22.cell? ⟨gb268, 3, none⟩ = some (.string a0_3) := (blk_cell BK268.out 3).trans rfl; have hfz24_0 := blk_frozen BK268.out 0; have hfz24_1 := blk_frozen BK268.out 1; have hfz24_2 := blk_frozen BK268.out 2; have hfz24_3 := blk_frozen BK268.out 3; have hcz25_0 : w22.cell? ⟨gb269, 0, none⟩ = some (.int .i64 a1_0) := (blk_cell BK269.out 0).trans rfl; have hcz25_1 : w22.cell? ⟨gb269, 1, none⟩ = some (.int .i64 a1_1) := (blk_cell BK269.out 1).trans rfl; have hcz25_2 : w22.cell? ⟨gb269, 2, none⟩ = some (.int .i64 a1_2) := (blk_cell BK269.out 2).trans rfl; have hcz25_3 : w22.cell? ⟨gb269, 3, none⟩ = some (.string a1_3) := (blk_cell BK269.out 3).trans rfl; have hfz25_0 := blk_frozen BK269.out 0; have hfz25_1 := blk_frozen BK269.out 1; have hfz25_2 := blk_frozen BK269.out 2; have hfz25_3 := blk_frozen BK269.out 3))
    go_ret
    exact ⟨by first | rfl | (simp [errW_none, errW_some] <;> rfl) | (simp [*, errW_none, errW_some] <;> rfl), by repeat (first | (with_reducible first | exact HB.out | apply below_alloc | apply pw_below_drewN | apply below_drew1 | refine below_set ?_ GE268.out | refine below_set ?_ GE269.out) | exact HB.out)⟩
end Go.Proofs.YtpamgedmgjfjjaaDoor.M
end
section
namespace Go.Proofs.YtpamgedmgjfjjaaDoor.M
open Go.RowKit Go.Proofs.YtpamgedmgjfjjaaDoorW.PrintWords Go.Proofs.YtpamgedmgjfjjaaDoorW.PrintLast Go.Proofs.YtpamgedmgjfjjaaDoorW.PrintMore
set_option linter.unusedVariables false
set_option linter.unusedSimpArgs false
theorem info5x : (Tryd.prog.info? 5).map (fun i => (i.zero, i.size, i.bytes)) = some (some (.int .u8 0), 1, 1) := by kernel_rfl
theorem sameA_refl' (q : AnsV) (w : World) : Calls Tryd.prog 38 #[.agg q.cells, .agg q.cells] w fun e w' => e = .returned (.bool true) ∧ Below w.heap.size w w' :=
  erratumlaw00_SameAnswer.calls _ _ _ _ _ _ _ _ true w (by simp [erratumlaw00_SameAnswer.f])
theorem same_refl' (q : AskV) (w : World) : Calls Tryd.prog 32 #[.agg q.cells, .agg q.cells] w fun e w' => e = .returned (.bool true) ∧ Below w.heap.size w w' :=
  erratumlaw25_same.calls _ _ _ _ _ _ _ _ _ _ _ _ _ _ _ _ true w (by simp [erratumlaw25_same.f])
theorem fput (q : AskV) (w : World) (hT : Tabs w) (hok : q.ok = true) : Calls Tryd.prog 19 #[.agg q.cells] w fun e w' => ∃ g cap, e = .returned (.tuple #[.slice (some ⟨g, 0, none⟩) q.put.length cap, .int .i64 0]) ∧ q.put.length ≤ cap ∧ (Kd.int .u8).C w' (some ⟨g, 0, none⟩) q.put.length q.put ∧ Below w.heap.size w w' := by
  have hb := q.ok_bounds hok
  refine (put_calls q w hT (by omega) (by omega) hok).mono ?_
  rintro e w' ⟨v, rfl, hown, hbel⟩
  obtain ⟨g, cap, N, rfl, hPI, hbg, hNN⟩ := putted q w w' v hok hown
  have hle := hPI.le
  subst hNN
  exact ⟨g, cap, rfl, hle, hPI.all, hbel⟩
theorem fputA (q : AnsV) (w : World) (hok : q.ok = true) : Calls Tryd.prog 20 #[.agg q.cells] w fun e w' => ∃ g cap, e = .returned (.tuple #[.slice (some ⟨g, 0, none⟩) q.put.length cap, .int .i64 0]) ∧ q.put.length ≤ cap ∧ (Kd.int .u8).C w' (some ⟨g, 0, none⟩) q.put.length q.put ∧ Below w.heap.size w w' := by
  refine (putAns_calls q w hok).mono ?_
  rintro e w' ⟨v, rfl, hown, hbel⟩
  obtain ⟨g, cap, N, rfl, hPI, hbg, hNN⟩ := puttedA q w w' v hown
  have hle := hPI.le
  subst hNN
  exact ⟨g, cap, rfl, hle, hPI.all, hbel⟩
end Go.Proofs.YtpamgedmgjfjjaaDoor.M
end
section
namespace Go.Proofs.YtpamgedmgjfjjaaDoor.M
open Go.RowKit Go.Proofs.YtpamgedmgjfjjaaDoorW.PrintWords Go.Proofs.YtpamgedmgjfjjaaDoorW.PrintLast Go.Proofs.YtpamgedmgjfjjaaDoorW.PrintMore
set_option linter.unusedVariables false
set_option linter.unusedSimpArgs false
theorem str_app (a b : List Int) : strOfNums (a ++ b) = strOfNums a ++ strOfNums b := by
  apply ba_eq'
  have : (strOfNums a ++ strOfNums b).data.toList = (strOfNums a).data.toList ++ (strOfNums b).data.toList := by simp [ByteArray.data_append]
  rw [this, strOfNums_data, strOfNums_data, strOfNums_data, List.map_append]
def AskV.str (q : AskV) : ByteArray := if q.ok then strOfNums q.put else .empty
def AskV.no (q : AskV) : Int := if q.ok then 0 else 1
def AnsV.str (q : AnsV) : ByteArray := if q.ok then strOfNums q.put else .empty
def AnsV.no (q : AnsV) : Int := if q.ok then 0 else 1
theorem four_k (n : Int) : erratumref25_four.f n = some (strOfNums (fourL n)) := rfl
theorem refPut_k25 (q : AskV) (hn : q.name.size ≤ 1000000) (hb : q.body.size ≤ 1000000) : erratumref25_Put.f (q.name.size + 5) q.k q.name q.f q.lang q.out q.dst q.mat q.body = some (q.str, q.no) := by
  unfold erratumref25_Put.f AskV.str AskV.no
  rw [refCheck_k q hn, Option.bind_some]
  cases hok : q.ok
  · rfl
  · have hz : (q.name.size : Int) % 256 = q.name.size := by have := q.ok_bounds hok; omega
    simp only [if_true, Option.bind_some, four_k]
    have e : ∀ n, (strOfNums (fourL n)).size = 4 := fun n => by rw [strOfNums_size, fourL_len]
    have e6 : ∀ l : List Int, l.length = 6 → (strOfNums l).size = 6 := fun l h => by rw [strOfNums_size, h]
    rw [if_pos (by rw [e6 _ rfl]; omega), if_pos (by rw [ByteArray.size_append, e6 _ rfl, e]; omega), if_pos (by rw [ByteArray.size_append, ByteArray.size_append, e6 _ rfl, e, e]; omega), if_pos (by rw [ByteArray.size_append, ByteArray.size_append, ByteArray.size_append, e6 _ rfl, e, e]; omega), hz]
    rw [AskV.put, str_app, str_app, str_app, str_app, str_bytesOf, str_bytesOf]
    rfl
theorem refPutA_k25 (q : AnsV) (hb : q.body.size ≤ 1000000) : erratumref25_PutAnswer.f q.e q.i q.r q.body = some (q.str, q.no) := by
  unfold erratumref25_PutAnswer.f AnsV.str AnsV.no
  rw [refMay_k q, Option.bind_some]
  cases hok : q.ok
  · rfl
  · have hbd := q.ok_bounds hok
    have hz : q.e % 256 = q.e := by omega
    have hz2 : wrap64 (q.i + 1) % 256 = q.i + 1 := by unfold wrap64; omega
    simp only [if_true, Option.bind_some, four_k]
    have e : ∀ n, (strOfNums (fourL n)).size = 4 := fun n => by rw [strOfNums_size, fourL_len]
    have e6 : ∀ l : List Int, l.length = 2 → (strOfNums l).size = 2 := fun l h => by rw [strOfNums_size, h]
    rw [if_pos (by rw [e6 _ rfl, e]; omega), if_pos (by rw [ByteArray.size_append, e6 _ rfl, e, e]; omega), if_pos (by rw [ByteArray.size_append, ByteArray.size_append, e6 _ rfl, e, e]; omega), hz, hz2]
    rw [AnsV.put, str_app, str_app, str_app, str_bytesOf]
theorem row_str {w W : World} {A : Option Addr} {n c : Nat} {l : List Int} (hl : l.length = n) (hC : (Kd.int .u8).C w A n l) (hb : Below w.heap.size w W) : (convert 33 9 (.slice A n c)).run Tryd.prog W = .ok (.string (strOfNums l)) W := read_str hl hC hb
theorem put_any (q : AskV) (w : World) (hT : Tabs w) (hn : q.name.size ≤ 1000000) (hb : q.body.size ≤ 1000000) :
    Calls Tryd.prog 19 #[.agg q.cells] w fun e w' => ∃ A n c, e = .returned (.tuple #[.slice A n c, .int .i64 q.no]) ∧ (∀ W, Below w'.heap.size w' W → (convert 33 9 (.slice A n c)).run Tryd.prog W = .ok (.string q.str) W) ∧ Below w.heap.size w w' := by
  unfold AskV.str AskV.no
  cases hok : q.ok
  · refine (put_no q w hT (by omega) (by omega) hok).mono ?_
    rintro e w' ⟨rfl, h⟩
    exact ⟨none, 0, 0, rfl, fun W hW => read_str (zs := []) rfl (Kd.C_nil (Kd.int .u8) w') hW, h⟩
  · refine (fput q w hT hok).mono ?_
    rintro e w' ⟨g, cap, rfl, hle, hC, h⟩
    exact ⟨_, _, _, rfl, fun W hW => read_str rfl hC hW, h⟩
theorem putA_any (q : AnsV) (w : World) :
    Calls Tryd.prog 20 #[.agg q.cells] w fun e w' => ∃ A n c, e = .returned (.tuple #[.slice A n c, .int .i64 q.no]) ∧ (∀ W, Below w'.heap.size w' W → (convert 33 9 (.slice A n c)).run Tryd.prog W = .ok (.string q.str) W) ∧ Below w.heap.size w w' := by
  unfold AnsV.str AnsV.no
  cases hok : q.ok
  · refine (putAns_no q w hok).mono ?_
    rintro e w' ⟨rfl, h⟩
    exact ⟨none, 0, 0, rfl, fun W hW => read_str (zs := []) rfl (Kd.C_nil (Kd.int .u8) w') hW, h⟩
  · refine (fputA q w hok).mono ?_
    rintro e w' ⟨g, cap, rfl, hle, hC, h⟩
    exact ⟨_, _, _, rfl, fun W hW => read_str rfl hC hW, h⟩
theorem get8_none (q : AskV) (l : List Int) (h : (get8 q l).1 ≠ 0) : (get8 q l).2 = AskV.none := by
  unfold get8 at *
  split at h
  · rw [if_pos ‹_›]
  · rw [if_neg ‹_›]
    split at h
    · exact absurd rfl h
    · rw [if_neg ‹_›]
theorem getL_none (l : List Int) (h : (getL l).1 ≠ 0) : (getL l).2 = AskV.none := by
  by_cases h5 : l.length < 5
  · rw [getL_short l h5]
  obtain ⟨x0, x1, x2, x3, x4, l5, rfl⟩ := five l (by omega)
  have h' : (get5 x0 x1 x2 x3 x4 l5).1 ≠ 0 := h
  show (get5 x0 x1 x2 x3 x4 l5).2 = _
  unfold get5 at *
  rcases ht : textL 1 l5 with _ | ⟨name, l6⟩
  · rfl
  · rw [ht] at h'
    have h6 : (get6 x0 name x1 x2 x3 x4 l6).1 ≠ 0 := h'
    show (get6 x0 name x1 x2 x3 x4 l6).2 = _
    unfold get6 at *
    by_cases h4 : l6.length < 4
    · rw [if_pos h4]
    · rw [if_neg h4] at h6 ⊢
      unfold get7 at *
      rcases ht2 : textL 4 (l6.drop 4) with _ | ⟨body, l8⟩
      · rfl
      · rw [ht2] at h6
        exact get8_none _ _ h6
theorem ansG_none (l : List Int) (h : (ansG l).1 ≠ 0) : (ansG l).2 = AnsV.none := by
  match l, h with
  | [], _ => rfl
  | [_], _ => rfl
  | e :: i :: l, h =>
    have h6 : (ans2 e (i - 1) l).1 ≠ 0 := h
    show (ans2 e (i - 1) l).2 = _
    unfold ans2 at *
    by_cases h4 : l.length < 4
    · rw [if_pos h4]
    · rw [if_neg h4] at h6 ⊢
      unfold ans4 at *
      rcases ht2 : textL 4 (l.drop 4) with _ | ⟨body, l8⟩
      · rfl
      · rw [ht2] at h6
        have h7 : (ans5 ⟨e, i - 1, numL (l.take 4), body⟩ l8).1 ≠ 0 := h6
        show (ans5 ⟨e, i - 1, numL (l.take 4), body⟩ l8).2 = _
        unfold ans5 at *
        split at h7
        · rw [if_pos ‹_›]
        · rw [if_neg ‹_›]
          split at h7
          · exact absurd rfl h7
          · rw [if_neg ‹_›]
theorem get_full (w : World) (l : List Int) (A : Option Addr) (c : Nat) (hc : l.length ≤ c) (hC : (Kd.int .u8).C w A l.length l) (hl : l.length ≤ 1000000) (hby : Bytes l) (hT : Tabs w) :
    Calls Tryd.prog 31 #[.slice A l.length c] w fun r w' => r = .returned (.tuple #[.agg (getL l).2.cells, .int .i64 (getL l).1]) ∧ Below w.heap.size w w' := by
  by_cases h : (getL l).1 = 0
  · rw [h]; exact get_good w l A c (getL l).2 (by rw [← h]) hc hC hl hby hT
  · rw [getL_none l h]; exact get_bad w l A c _ rfl h hc hC hl hby hT
theorem ans_full (w : World) (l : List Int) (A : Option Addr) (c : Nat) (hc : l.length ≤ c) (hC : (Kd.int .u8).C w A l.length l) (hl : l.length ≤ 1000000) (hby : Bytes l) :
    Calls Tryd.prog 36 #[.slice A l.length c] w fun r w' => r = .returned (.tuple #[.agg (ansG l).2.cells, .int .i64 (ansG l).1]) ∧ Below w.heap.size w w' := by
  by_cases h : (ansG l).1 = 0
  · rw [h]; exact ans_good w l A c (ansG l).2 (by rw [← h]) hc hC hl hby
  · rw [ansG_none l h]; exact ans_bad w l A c _ rfl h hc hC hl hby
end Go.Proofs.YtpamgedmgjfjjaaDoor.M
end
section
namespace Go.Proofs.YtpamgedmgjfjjaaDoor.M
open Go.RowKit Go.Proofs.YtpamgedmgjfjjaaDoorW.PrintWords Go.Proofs.YtpamgedmgjfjjaaDoorW.PrintLast Go.Proofs.YtpamgedmgjfjjaaDoorW.PrintMore
set_option linter.unusedVariables false
set_option linter.unusedSimpArgs false
theorem cells5 {W : World} {n4 n6 nb nd n : Nat} {g0 : Int} {g1 : ByteArray} {g2 g3 g4 g5 g6 : Int} {g7 : ByteArray} {a0 a1 a2 : Int} {a3 : ByteArray} {k : Int} {name : ByteArray} {f lang out dst mat : Int} {body : ByteArray}
    (h1 : W.heap[n4]? = some (.cells #[.int .i64 g0, .string g1, .int .i64 g2, .int .i64 g3, .int .i64 g4, .int .i64 g5, .int .i64 g6, .string g7] 29 (0, 0)))
    (h2 : W.heap[n6]? = some (.cells #[.int .i64 g0, .string g1, .int .i64 g2, .int .i64 g3, .int .i64 g4, .int .i64 g5, .int .i64 g6, .string g7] 29 (0, 0)))
    (h3 : W.heap[nb]? = some (.cells #[.int .i64 a0, .int .i64 a1, .int .i64 a2, .string a3] 32 (0, 0))) (h4 : W.heap[nd]? = some (.cells #[.int .i64 a0, .int .i64 a1, .int .i64 a2, .string a3] 32 (0, 0)))
    (h5 : W.heap[n]? = some (.cells #[.int .i64 k, .string name, .int .i64 f, .int .i64 lang, .int .i64 out, .int .i64 dst, .int .i64 mat, .string body] 29 (0, 0))) :
    W.cell? ⟨n4, 0, none⟩ = some (.int .i64 g0) ∧ W.cell? ⟨n4, 1, none⟩ = some (.string g1) ∧ W.cell? ⟨n4, 2, none⟩ = some (.int .i64 g2) ∧ W.cell? ⟨n4, 3, none⟩ = some (.int .i64 g3) ∧ W.cell? ⟨n4, 4, none⟩ = some (.int .i64 g4) ∧ W.cell? ⟨n4, 5, none⟩ = some (.int .i64 g5) ∧ W.cell? ⟨n4, 6, none⟩ = some (.int .i64 g6) ∧ W.cell? ⟨n4, 7, none⟩ = some (.string g7) ∧ W.cell? ⟨n6, 0, none⟩ = some (.int .i64 g0) ∧ W.cell? ⟨n6, 1, none⟩ = some (.string g1) ∧ W.cell? ⟨n6, 2, none⟩ = some (.int .i64 g2) ∧ W.cell? ⟨n6, 3, none⟩ = some (.int .i64 g3) ∧ W.cell? ⟨n6, 4, none⟩ = some (.int .i64 g4) ∧ W.cell? ⟨n6, 5, none⟩ = some (.int .i64 g5) ∧ W.cell? ⟨n6, 6, none⟩ = some (.int .i64 g6) ∧ W.cell? ⟨n6, 7, none⟩ = some (.string g7) ∧ W.cell? ⟨nb, 0, none⟩ = some (.int .i64 a0) ∧ W.cell? ⟨nb, 1, none⟩ = some (.int .i64 a1) ∧ W.cell? ⟨nb, 2, none⟩ = some (.int .i64 a2) ∧ W.cell? ⟨nb, 3, none⟩ = some (.string a3) ∧ W.cell? ⟨nd, 0, none⟩ = some (.int .i64 a0) ∧ W.cell? ⟨nd, 1, none⟩ = some (.int .i64 a1) ∧ W.cell? ⟨nd, 2, none⟩ = some (.int .i64 a2) ∧ W.cell? ⟨nd, 3, none⟩ = some (.string a3) ∧ W.cell? ⟨n, 0, none⟩ = some (.int .i64 k) ∧ W.cell? ⟨n, 1, none⟩ = some (.string name) ∧ W.cell? ⟨n, 2, none⟩ = some (.int .i64 f) ∧ W.cell? ⟨n, 3, none⟩ = some (.int .i64 lang) ∧ W.cell? ⟨n, 4, none⟩ = some (.int .i64 out) ∧ W.cell? ⟨n, 5, none⟩ = some (.int .i64 dst) ∧ W.cell? ⟨n, 6, none⟩ = some (.int .i64 mat) ∧ W.cell? ⟨n, 7, none⟩ = some (.string body) := by
  obtain ⟨y0, y1, y2, y3, y4, y5, y6, y7⟩ := box29 h1
  obtain ⟨z0, z1, z2, z3, z4, z5, z6, z7⟩ := box29 h2
  obtain ⟨p0, p1, p2, p3⟩ := box32 h3
  obtain ⟨r0, r1, r2, r3⟩ := box32 h4
  obtain ⟨k0, k1, k2, k3, k4, k5, k6, k7⟩ := box29 h5
  exact ⟨y0, y1, y2, y3, y4, y5, y6, y7, z0, z1, z2, z3, z4, z5, z6, z7, p0, p1, p2, p3, r0, r1, r2, r3, k0, k1, k2, k3, k4, k5, k6, k7⟩
set_option maxHeartbeats 8000000 in
set_option maxRecDepth 100000 in
theorem fall_in (q : AskV) (x : AnsV) (A0 : Option Addr) (c0 : Nat) (l : List Int) (w : World) (hT : Tabs w) (hr : (Kd.int .u8).C w A0 l.length l) (hc : l.length ≤ c0) (hy : Bytes l)
    (h1 : q.body.size ≤ 40000) (h2 : q.name.size ≤ 500) (h3 : x.body.size ≤ 40000) (h4 : l.length ≤ 5000) :
    Calls Tryd.prog 9 #[.agg q.cells, .agg x.cells, .slice A0 l.length c0] w fun e w' => e = .returned (.bool true) ∧ Below w.heap.size w w' := by
  have d1 : decide ((40000 : Int) < (q.body.size : Int)) = false := decide_eq_false (by omega)
  have d2 : decide ((500 : Int) < (q.name.size : Int)) = false := decide_eq_false (by omega)
  have d3 : decide ((40000 : Int) < (x.body.size : Int)) = false := decide_eq_false (by omega)
  have d4 : decide ((5000 : Int) < (l.length : Int)) = false := decide_eq_false (by omega)
  have HW := Aside0.mk (fun w1 (h : Below w.heap.size w w1) => frame_awake_calls w1 (tabs_below hT h))
  have HMO := Aside0.mk hr
  have HLL := Aside0.mk h4
  have H19 := Aside0.mk (fun w1 (h : Below w.heap.size w w1) => put_any q w1 (tabs_below hT h) (by omega) (by omega))
  have H33 := Aside0.mk (fun w1 => erratumref25_Put.calls _ _ _ _ _ _ _ _ _ _ _ w1 (refPut_k25 q (by omega) (by omega)))
  have H20 := Aside0.mk (fun w1 => putA_any x w1)
  have H35 := Aside0.mk (fun w1 => erratumref25_PutAnswer.calls _ _ _ _ _ _ w1 (refPutA_k25 x (by omega)))
  have H31 := Aside0.mk (fun A c w1 (hle : l.length ≤ c) (hC : (Kd.int .u8).C w1 A l.length l) (h : Below w.heap.size w w1) => get_full w1 l A c hle hC (by omega) hy (tabs_below hT h))
  have H36 := Aside0.mk (fun A c w1 (hle : l.length ≤ c) (hC : (Kd.int .u8).C w1 A l.length l) => ans_full w1 l A c hle hC (by omega) hy)
  have H34 := Aside0.mk (fun w1 => refGet_walk (strOfNums l) w1 (by rw [strOfNums_size]; omega))
  have H37 := Aside0.mk (fun w1 => refAns_walk (strOfNums l) w1 (by rw [strOfNums_size]; omega))
  rw [bytes_str l hy, refGet_eq l hy] at H34
  rw [bytes_str l hy, refAns_eq l hy] at H37
  have H30 := Aside0.mk (fun w1 (h : Below w.heap.size w w1) => check_calls q w1 (tabs_below hT h) (by omega) (by omega))
  have H29 := Aside0.mk (fun w1 => refCheck_calls q (by omega) w1)
  have hcv := fun W (h : Below w.heap.size w W) (n : Nat) => row_str (W := W.drewN n) (c := c0) rfl hr (pw_below_drewN h n)
  have HCV := Aside0.mk (fun W (h : Below w.heap.size w W) => row_str (W := W) (c := c0) rfl hr h)
  have H32 := Aside0.mk (fun w1 => same_refl' (getL l).2 w1)
  have H38 := Aside0.mk (fun w1 => sameA_refl' (ansG l).2 w1)
  generalize getL l = gr at *
  obtain ⟨ge, g0, g1, g2, g3, g4, g5, g6, g7⟩ := gr
  generalize ansG l = ar at *
  obtain ⟨ae, a0, a1, a2, a3⟩ := ar
  generalize q.str = ps at *
  generalize q.no = pn at *
  generalize x.str = xs_ at *
  generalize x.no = xn at *
  generalize q.ok = qk at *
  generalize strOfNums l = sl at *
  obtain ⟨k, name, f, lang, out, dst, mat, body⟩ := q
  obtain ⟨xe, xi, xr, xb⟩ := x
  simp only [AskV.cells, AnsV.cells] at *
  have hb00 := below_alloc (Below.refl w.heap.size w) (.cells #[.int .i64 k, .string name, .int .i64 f, .int .i64 lang, .int .i64 out, .int .i64 dst, .int .i64 mat, .string body] 29)
  have HB0 := Aside0.mk (below_alloc hb00 (.cells #[.int .i64 xe, .int .i64 xi, .int .i64 xr, .string xb] 32))
  have BK0 := Aside0.mk (blk_alloc (heap_new w (.cells #[.int .i64 k, .string name, .int .i64 f, .int .i64 lang, .int .i64 out, .int .i64 dst, .int .i64 mat, .string body] 29)) (.cells #[.int .i64 xe, .int .i64 xi, .int .i64 xr, .string xb] 32))
  have BX0 := Aside0.mk (heap_new1 w (.cells #[.int .i64 k, .string name, .int .i64 f, .int .i64 lang, .int .i64 out, .int .i64 dst, .int .i64 mat, .string body] 29) (.cells #[.int .i64 xe, .int .i64 xi, .int .i64 xr, .string xb] 32))
  clear hb00 hT hr hc hy h1 h2 h3 h4 hcv
  go_enter Tryd.func9, Tryd.ntmps9
  go_upto_region 3 with fail
  clear d1 d2 d3 d4
  generalize hw0 : (w.alloc (.cells #[.int .i64 k, .string name, .int .i64 f, .int .i64 lang, .int .i64 out, .int .i64 dst, .int .i64 mat, .string body] 29)).alloc (.cells #[.int .i64 xe, .int .i64 xi, .int .i64 xr, .string xb] 32) = w0 at HB0 BK0 BX0 ⊢
  clear hw0
  obtain ⟨b0, b1, b2, b3, b4, b5, b6, b7⟩ := box29 BK0.out
  go_upto_region 6 with (first
    | (go_at_call 19; (with_reducible refine (H19.out _ HB0.out).mono ?_); rintro e w1 ⟨Ap, np, cp, rfl, hcp, hb⟩; have HCP := Aside0.mk hcp; have HQ1 := Aside0.mk (Below.refl w1.heap.size w1); have HB1 := Aside0.mk (below_step HB0.out hb); have BK1 := Aside0.mk (blk_below BK0.out hb); have BX1 := Aside0.mk (blk_below BX0.out hb); obtain ⟨m0, m1, m2, m3, m4, m5, m6, m7⟩ := box29 BK1.out; clear hb hcp)
    | (go_at_call 33; (with_reducible refine (H33.out _).mono ?_); rintro e w2 ⟨rfl, hb⟩; have HQ2 := Aside0.mk (HQ1.out.trans (hb.mono HQ1.out.size)); have HB2 := Aside0.mk (below_step HB1.out hb); have BK2 := Aside0.mk (blk_below BK1.out hb); have BX2 := Aside0.mk (blk_below BX1.out hb); have HM2 := Aside0.mk (Kd.C_below HMO.out (below_step HB1.out hb)); clear hb)
    | ((with_reducible refine gate_builtin (b := .append) (xs := #[.const (.slice none 0 0), .tmp 56]) rfl ?_); at_builtin; refine Kd.R_append_rows (Kd.int .u8) (w0 := w2) w2.heap.size rfl (.const (.slice none 0 0)) (.tmp 56) 33 5 (.int .u8 0) 1 rfl Tryd.underlying33 info5x rfl (by decide) (by omega) (.slice none 0 0) ([] : List Int) l A0 l.length c0 (fun _ => True) (fun _ => False) rfl rfl ?p1O (HM2.out) (fun _ _ h => h) (fun _ h => h.elim) (fun _ _ => trivial) (Below.refl _ _) (Nat.le_refl _) ?p1L ?_; (case p1O => exact Kd.R_nil _ _ _ _ _); (case p1L => have := HLL.out; simp; omega); intro v_ w3 ho hb hg hat; obtain ⟨A3, c3, rfl, hle3, hC3⟩ := Kd.R_reads ho; have HC3 := Aside0.mk hC3; have HL3 := Aside0.mk hle3; have HQ3 := Aside0.mk (HQ2.out.trans (hb.mono HQ2.out.size)); have HB3 := Aside0.mk (below_step HB2.out hb); have BK3 := Aside0.mk (blk_below BK2.out hb); have BX3 := Aside0.mk (blk_below BX2.out hb); clear ho hb hg hat hC3 hle3)
    | (go_at_call 31; (with_reducible refine (H31.out _ _ _ HL3.out HC3.out HB3.out).mono ?_); rintro e w4 ⟨rfl, hb⟩; have HQ4 := Aside0.mk (HQ3.out.trans (hb.mono HQ3.out.size)); have HB4 := Aside0.mk (below_step HB3.out hb); have BK4 := Aside0.mk (blk_below BK3.out hb); have BX4 := Aside0.mk (blk_below BX3.out hb); clear hb))
  clear b0 b1 b2 b3 b4 b5 b6 b7 m0 m1 m2 m3 m4 m5 m6 m7 HB0 BK0 BX0 HQ1 HB1 BK1 BX1 HQ2 HB2 BK2 BX2 HM2 HC3 HL3 HQ3 HB3 BK3 BX3 H19 H33 H31
  have HB5 := Aside0.mk (below_alloc HB4.out (.cells #[.int .i64 g0, .string g1, .int .i64 g2, .int .i64 g3, .int .i64 g4, .int .i64 g5, .int .i64 g6, .string g7] 29))
  have HQ5 := Aside0.mk (below_alloc HQ4.out (.cells #[.int .i64 g0, .string g1, .int .i64 g2, .int .i64 g3, .int .i64 g4, .int .i64 g5, .int .i64 g6, .string g7] 29))
  have BK5 := Aside0.mk (blk_alloc BK4.out (.cells #[.int .i64 g0, .string g1, .int .i64 g2, .int .i64 g3, .int .i64 g4, .int .i64 g5, .int .i64 g6, .string g7] 29))
  have BX5 := Aside0.mk (blk_alloc BX4.out (.cells #[.int .i64 g0, .string g1, .int .i64 g2, .int .i64 g3, .int .i64 g4, .int .i64 g5, .int .i64 g6, .string g7] 29))
  have BG5 := Aside0.mk (blk_new w4 (.cells #[.int .i64 g0, .string g1, .int .i64 g2, .int .i64 g3, .int .i64 g4, .int .i64 g5, .int .i64 g6, .string g7] 29))
  generalize w4.alloc (.cells #[.int .i64 g0, .string g1, .int .i64 g2, .int .i64 g3, .int .i64 g4, .int .i64 g5, .int .i64 g6, .string g7] 29) = w5 at HB5 HQ5 BK5 BX5 BG5 ⊢
  generalize w4.heap.size = n4 at BG5 ⊢
  clear HB4 HQ4 BK4 BX4
  have hcv := HCV.out _ HB5.out
  go_upto_region 7 with (go_at_call 34; (with_reducible refine (H34.out _).mono ?_); rintro e w6 ⟨rfl, hb⟩; have HQ6 := Aside0.mk (HQ5.out.trans (hb.mono HQ5.out.size)); have HB6 := Aside0.mk (below_step HB5.out hb); have BK6 := Aside0.mk (blk_below BK5.out hb); have BX6 := Aside0.mk (blk_below BX5.out hb); have BG6 := Aside0.mk (blk_below BG5.out hb); clear hb)
  clear hcv H34 HB5 HQ5 BK5 BX5 BG5
  have HB7 := Aside0.mk (below_alloc HB6.out (.cells #[.int .i64 g0, .string g1, .int .i64 g2, .int .i64 g3, .int .i64 g4, .int .i64 g5, .int .i64 g6, .string g7] 29))
  have HQ7 := Aside0.mk (below_alloc HQ6.out (.cells #[.int .i64 g0, .string g1, .int .i64 g2, .int .i64 g3, .int .i64 g4, .int .i64 g5, .int .i64 g6, .string g7] 29))
  have BK7 := Aside0.mk (blk_alloc BK6.out (.cells #[.int .i64 g0, .string g1, .int .i64 g2, .int .i64 g3, .int .i64 g4, .int .i64 g5, .int .i64 g6, .string g7] 29))
  have BX7 := Aside0.mk (blk_alloc BX6.out (.cells #[.int .i64 g0, .string g1, .int .i64 g2, .int .i64 g3, .int .i64 g4, .int .i64 g5, .int .i64 g6, .string g7] 29))
  have BG7 := Aside0.mk (blk_alloc BG6.out (.cells #[.int .i64 g0, .string g1, .int .i64 g2, .int .i64 g3, .int .i64 g4, .int .i64 g5, .int .i64 g6, .string g7] 29))
  have BH7 := Aside0.mk (blk_new w6 (.cells #[.int .i64 g0, .string g1, .int .i64 g2, .int .i64 g3, .int .i64 g4, .int .i64 g5, .int .i64 g6, .string g7] 29))
  generalize w6.alloc (.cells #[.int .i64 g0, .string g1, .int .i64 g2, .int .i64 g3, .int .i64 g4, .int .i64 g5, .int .i64 g6, .string g7] 29) = w7 at HB7 HQ7 BK7 BX7 BG7 BH7 ⊢
  generalize w6.heap.size = n6 at BH7 ⊢
  clear HB6 HQ6 BK6 BX6 BG6
  obtain ⟨x0, x1, x2, x3⟩ := box32 BX7.out
  go_upto_region 10 with (first
    | (go_at_call 20; (with_reducible refine (H20.out _).mono ?_); rintro e w8 ⟨Ar, nr, cr, rfl, hcr, hb⟩; have HCR := Aside0.mk hcr; have HT8 := Aside0.mk (Below.refl w8.heap.size w8); have HQ8 := Aside0.mk (HQ7.out.trans (hb.mono HQ7.out.size)); have HB8 := Aside0.mk (below_step HB7.out hb); have BK8 := Aside0.mk (blk_below BK7.out hb); have BX8 := Aside0.mk (blk_below BX7.out hb); have BG8 := Aside0.mk (blk_below BG7.out hb); have BH8 := Aside0.mk (blk_below BH7.out hb); obtain ⟨y0, y1, y2, y3⟩ := box32 BX8.out; clear hb hcr)
    | (go_at_call 35; (with_reducible refine (H35.out _).mono ?_); rintro e w9 ⟨rfl, hb⟩; have HT9 := Aside0.mk (HT8.out.trans (hb.mono HT8.out.size)); have HQ9 := Aside0.mk (HQ8.out.trans (hb.mono HQ8.out.size)); have HB9 := Aside0.mk (below_step HB8.out hb); have BK9 := Aside0.mk (blk_below BK8.out hb); have BG9 := Aside0.mk (blk_below BG8.out hb); have BH9 := Aside0.mk (blk_below BH8.out hb); have HM9 := Aside0.mk (Kd.C_below HMO.out (below_step HB8.out hb)); clear hb)
    | ((with_reducible refine gate_builtin (b := .append) (xs := #[.const (.slice none 0 0), .tmp 78]) rfl ?_); at_builtin; refine Kd.R_append_rows (Kd.int .u8) (w0 := w9) w9.heap.size rfl (.const (.slice none 0 0)) (.tmp 78) 33 5 (.int .u8 0) 1 rfl Tryd.underlying33 info5x rfl (by decide) (by omega) (.slice none 0 0) ([] : List Int) l A0 l.length c0 (fun _ => True) (fun _ => False) rfl rfl ?p2O (HM9.out) (fun _ _ h => h) (fun _ h => h.elim) (fun _ _ => trivial) (Below.refl _ _) (Nat.le_refl _) ?p2L ?_; (case p2O => exact Kd.R_nil _ _ _ _ _); (case p2L => have := HLL.out; simp; omega); intro v_ wa ho hb hg hat; obtain ⟨Aa, ca, rfl, hlea, hCa⟩ := Kd.R_reads ho; have HCa := Aside0.mk hCa; have HLa := Aside0.mk hlea; have HTa := Aside0.mk (HT9.out.trans (hb.mono HT9.out.size)); have HQa := Aside0.mk (HQ9.out.trans (hb.mono HQ9.out.size)); have HBa := Aside0.mk (below_step HB9.out hb); have BKa := Aside0.mk (blk_below BK9.out hb); have BGa := Aside0.mk (blk_below BG9.out hb); have BHa := Aside0.mk (blk_below BH9.out hb); clear ho hb hg hat hCa hlea)
    | (go_at_call 36; (with_reducible refine (H36.out _ _ _ HLa.out HCa.out).mono ?_); rintro e wb ⟨rfl, hb⟩; have HTb := Aside0.mk (HTa.out.trans (hb.mono HTa.out.size)); have HQb := Aside0.mk (HQa.out.trans (hb.mono HQa.out.size)); have HBb := Aside0.mk (below_step HBa.out hb); have BKb := Aside0.mk (blk_below BKa.out hb); have BGb := Aside0.mk (blk_below BGa.out hb); have BHb := Aside0.mk (blk_below BHa.out hb); clear hb))
  clear x0 x1 x2 x3 y0 y1 y2 y3 HB7 HQ7 BK7 BX7 BG7 BH7 HT8 HQ8 HB8 BK8 BX8 BG8 BH8 HT9 HQ9 HB9 BK9 BG9 BH9 HM9 HCa HLa HTa HQa HBa BKa BGa BHa H20 H35 H36
  have HBc := Aside0.mk (below_alloc HBb.out (.cells #[.int .i64 a0, .int .i64 a1, .int .i64 a2, .string a3] 32))
  have HQc := Aside0.mk (below_alloc HQb.out (.cells #[.int .i64 a0, .int .i64 a1, .int .i64 a2, .string a3] 32))
  have HTc := Aside0.mk (below_alloc HTb.out (.cells #[.int .i64 a0, .int .i64 a1, .int .i64 a2, .string a3] 32))
  have BKc := Aside0.mk (blk_alloc BKb.out (.cells #[.int .i64 a0, .int .i64 a1, .int .i64 a2, .string a3] 32))
  have BGc := Aside0.mk (blk_alloc BGb.out (.cells #[.int .i64 a0, .int .i64 a1, .int .i64 a2, .string a3] 32))
  have BHc := Aside0.mk (blk_alloc BHb.out (.cells #[.int .i64 a0, .int .i64 a1, .int .i64 a2, .string a3] 32))
  have BAc := Aside0.mk (blk_new wb (.cells #[.int .i64 a0, .int .i64 a1, .int .i64 a2, .string a3] 32))
  generalize wb.alloc (.cells #[.int .i64 a0, .int .i64 a1, .int .i64 a2, .string a3] 32) = wc at HBc HQc HTc BKc BGc BHc BAc ⊢
  generalize wb.heap.size = nb at BAc ⊢
  clear HBb HQb HTb BKb BGb BHb
  have hcv := HCV.out _ HBc.out
  go_upto_region 11 with (go_at_call 37; (with_reducible refine (H37.out _).mono ?_); rintro e wd ⟨rfl, hb⟩; have HQd := Aside0.mk (HQc.out.trans (hb.mono HQc.out.size)); have HTd := Aside0.mk (HTc.out.trans (hb.mono HTc.out.size)); have HBd := Aside0.mk (below_step HBc.out hb); have BKd := Aside0.mk (blk_below BKc.out hb); have BGd := Aside0.mk (blk_below BGc.out hb); have BHd := Aside0.mk (blk_below BHc.out hb); have BAd := Aside0.mk (blk_below BAc.out hb); clear hb)
  clear hcv H37 HBc HQc HTc BKc BGc BHc BAc
  have HBe := Aside0.mk (below_drew1 (below_alloc HBd.out (.cells #[.int .i64 a0, .int .i64 a1, .int .i64 a2, .string a3] 32)))
  have HQe := Aside0.mk (below_drew1 (below_alloc HQd.out (.cells #[.int .i64 a0, .int .i64 a1, .int .i64 a2, .string a3] 32)))
  have HTe := Aside0.mk (below_drew1 (below_alloc HTd.out (.cells #[.int .i64 a0, .int .i64 a1, .int .i64 a2, .string a3] 32)))
  have BKe := Aside0.mk (blk_drew (blk_alloc BKd.out (.cells #[.int .i64 a0, .int .i64 a1, .int .i64 a2, .string a3] 32)))
  have BGe := Aside0.mk (blk_drew (blk_alloc BGd.out (.cells #[.int .i64 a0, .int .i64 a1, .int .i64 a2, .string a3] 32)))
  have BHe := Aside0.mk (blk_drew (blk_alloc BHd.out (.cells #[.int .i64 a0, .int .i64 a1, .int .i64 a2, .string a3] 32)))
  have BAe := Aside0.mk (blk_drew (blk_alloc BAd.out (.cells #[.int .i64 a0, .int .i64 a1, .int .i64 a2, .string a3] 32)))
  have BBe := Aside0.mk (blk_drew (blk_new wd (.cells #[.int .i64 a0, .int .i64 a1, .int .i64 a2, .string a3] 32)))
  generalize wd.alloc (.cells #[.int .i64 a0, .int .i64 a1, .int .i64 a2, .string a3] 32) = we at HBe HQe HTe BKe BGe BHe BAe BBe ⊢
  generalize wd.heap.size = nd at BBe ⊢
  clear HBd HQd HTd BKd BGd BHd BAd HCV HMO HLL
  have hc1 := HCP.out _ HQe.out
  have hc2 := HCR.out _ HTe.out
  obtain ⟨y0, y1, y2, y3, y4, y5, y6, y7⟩ := box29 BGe.out
  obtain ⟨z0, z1, z2, z3, z4, z5, z6, z7⟩ := box29 BHe.out
  go_region_held3 (fun w' => (convert 33 9 (.slice Ap np cp)).run Tryd.prog w' = .ok (.string ps) w' ∧ (convert 33 9 (.slice Ar nr cr)).run Tryd.prog w' = .ok (.string xs_) w' ∧ w'.cell? ⟨n4, 0, none⟩ = some (.int .i64 g0) ∧ w'.cell? ⟨n4, 1, none⟩ = some (.string g1) ∧ w'.cell? ⟨n4, 2, none⟩ = some (.int .i64 g2) ∧ w'.cell? ⟨n4, 3, none⟩ = some (.int .i64 g3) ∧ w'.cell? ⟨n4, 4, none⟩ = some (.int .i64 g4) ∧ w'.cell? ⟨n4, 5, none⟩ = some (.int .i64 g5) ∧ w'.cell? ⟨n4, 6, none⟩ = some (.int .i64 g6) ∧ w'.cell? ⟨n4, 7, none⟩ = some (.string g7) ∧ w'.cell? ⟨n6, 0, none⟩ = some (.int .i64 g0) ∧ w'.cell? ⟨n6, 1, none⟩ = some (.string g1) ∧ w'.cell? ⟨n6, 2, none⟩ = some (.int .i64 g2) ∧ w'.cell? ⟨n6, 3, none⟩ = some (.int .i64 g3) ∧ w'.cell? ⟨n6, 4, none⟩ = some (.int .i64 g4) ∧ w'.cell? ⟨n6, 5, none⟩ = some (.int .i64 g5) ∧ w'.cell? ⟨n6, 6, none⟩ = some (.int .i64 g6) ∧ w'.cell? ⟨n6, 7, none⟩ = some (.string g7) ∧ w'.cell? ⟨nb, 0, none⟩ = some (.int .i64 a0) ∧ w'.cell? ⟨nb, 1, none⟩ = some (.int .i64 a1) ∧ w'.cell? ⟨nb, 2, none⟩ = some (.int .i64 a2) ∧ w'.cell? ⟨nb, 3, none⟩ = some (.string a3) ∧ w'.cell? ⟨nd, 0, none⟩ = some (.int .i64 a0) ∧ w'.cell? ⟨nd, 1, none⟩ = some (.int .i64 a1) ∧ w'.cell? ⟨nd, 2, none⟩ = some (.int .i64 a2) ∧ w'.cell? ⟨nd, 3, none⟩ = some (.string a3) ∧ w'.cell? ⟨w.heap.size, 0, none⟩ = some (.int .i64 k) ∧ w'.cell? ⟨w.heap.size, 1, none⟩ = some (.string name) ∧ w'.cell? ⟨w.heap.size, 2, none⟩ = some (.int .i64 f) ∧ w'.cell? ⟨w.heap.size, 3, none⟩ = some (.int .i64 lang) ∧ w'.cell? ⟨w.heap.size, 4, none⟩ = some (.int .i64 out) ∧ w'.cell? ⟨w.heap.size, 5, none⟩ = some (.int .i64 dst) ∧ w'.cell? ⟨w.heap.size, 6, none⟩ = some (.int .i64 mat) ∧ w'.cell? ⟨w.heap.size, 7, none⟩ = some (.string body))
    (first | exact ⟨HCP.out _ HQe.out, HCR.out _ HTe.out, cells5 BGe.out BHe.out BAe.out BBe.out BKe.out⟩ | exact ⟨HCP.out _ HQf.out, HCR.out _ HTf.out, cells5 BGf.out BHf.out BAf.out BBf.out BKf.out⟩ | exact ⟨HCP.out _ HQg.out, HCR.out _ HTg.out, cells5 BGg.out BHg.out BAg.out BBg.out BKg.out⟩ | exact ⟨HCP.out _ HQh.out, HCR.out _ HTh.out, cells5 BGh.out BHh.out BAh.out BBh.out BKh.out⟩ | exact ⟨HCP.out _ HQi.out, HCR.out _ HTi.out, cells5 BGi.out BHi.out BAi.out BBi.out BKi.out⟩ | exact ⟨HCP.out _ HQj.out, HCR.out _ HTj.out, cells5 BGj.out BHj.out BAj.out BBj.out BKj.out⟩)
    (first
    | (go_at_call 32; (with_reducible refine (H32.out _).mono ?_); rintro e wf ⟨rfl, hb⟩; have HBf := Aside0.mk (below_step HBe.out hb); have HQf := Aside0.mk (HQe.out.trans (hb.mono HQe.out.size)); have HTf := Aside0.mk (HTe.out.trans (hb.mono HTe.out.size)); have BGf := Aside0.mk (blk_below BGe.out hb); have BHf := Aside0.mk (blk_below BHe.out hb); have BAf := Aside0.mk (blk_below BAe.out hb); have BBf := Aside0.mk (blk_below BBe.out hb); have BKf := Aside0.mk (blk_below BKe.out hb); clear hb)
    | (go_at_call 38; (with_reducible refine (H38.out _).mono ?_); rintro e wg ⟨rfl, hb⟩; have HBg := Aside0.mk (below_step HBf.out hb); have HQg := Aside0.mk (HQf.out.trans (hb.mono HQf.out.size)); have HTg := Aside0.mk (HTf.out.trans (hb.mono HTf.out.size)); have BGg := Aside0.mk (blk_below BGf.out hb); have BHg := Aside0.mk (blk_below BHf.out hb); have BAg := Aside0.mk (blk_below BAf.out hb); have BBg := Aside0.mk (blk_below BBf.out hb); have BKg := Aside0.mk (blk_below BKf.out hb); clear hb)
    | (go_at_call 30; (with_reducible refine (H30.out _ HBg.out).mono ?_); rintro e wh ⟨rfl, hb⟩; have HBh := Aside0.mk (below_step HBg.out hb); have HQh := Aside0.mk (HQg.out.trans (hb.mono HQg.out.size)); have HTh := Aside0.mk (HTg.out.trans (hb.mono HTg.out.size)); have BGh := Aside0.mk (blk_below BGg.out hb); have BHh := Aside0.mk (blk_below BHg.out hb); have BAh := Aside0.mk (blk_below BAg.out hb); have BBh := Aside0.mk (blk_below BBg.out hb); have BKh := Aside0.mk (blk_below BKg.out hb); clear hb)
    | (go_at_call 29; (with_reducible refine (H29.out wh).mono ?_); rintro e wi ⟨rfl, hb⟩; have HBi := Aside0.mk (below_step HBh.out hb); have HQi := Aside0.mk (HQh.out.trans (hb.mono HQh.out.size)); have HTi := Aside0.mk (HTh.out.trans (hb.mono HTh.out.size)); have BGi := Aside0.mk (blk_below BGh.out hb); have BHi := Aside0.mk (blk_below BHh.out hb); have BAi := Aside0.mk (blk_below BAh.out hb); have BBi := Aside0.mk (blk_below BBh.out hb); have BKi := Aside0.mk (blk_below BKh.out hb); clear hb)
    | (go_at_call 29; (with_reducible refine (H29.out wg).mono ?_); rintro e wh ⟨rfl, hb⟩; have HBh := Aside0.mk (below_step HBg.out hb); have HQh := Aside0.mk (HQg.out.trans (hb.mono HQg.out.size)); have HTh := Aside0.mk (HTg.out.trans (hb.mono HTg.out.size)); have BGh := Aside0.mk (blk_below BGg.out hb); have BHh := Aside0.mk (blk_below BHg.out hb); have BAh := Aside0.mk (blk_below BAg.out hb); have BBh := Aside0.mk (blk_below BBg.out hb); have BKh := Aside0.mk (blk_below BKg.out hb); clear hb)
    | (go_at_call 30; (with_reducible refine (H30.out _ HBh.out).mono ?_); rintro e wi ⟨rfl, hb⟩; have HBi := Aside0.mk (below_step HBh.out hb); have HQi := Aside0.mk (HQh.out.trans (hb.mono HQh.out.size)); have HTi := Aside0.mk (HTh.out.trans (hb.mono HTh.out.size)); have BGi := Aside0.mk (blk_below BGh.out hb); have BHi := Aside0.mk (blk_below BHh.out hb); have BAi := Aside0.mk (blk_below BAh.out hb); have BBi := Aside0.mk (blk_below BBh.out hb); have BKi := Aside0.mk (blk_below BKh.out hb); clear hb)
    | (go_at_call 18; (with_reducible refine (HW.out _ HBi.out).mono ?_); rintro e wj ⟨rfl, hb⟩; have HBj := Aside0.mk (below_step HBi.out hb); have HQj := Aside0.mk (HQi.out.trans (hb.mono HQi.out.size)); have HTj := Aside0.mk (HTi.out.trans (hb.mono HTi.out.size)); have BGj := Aside0.mk (blk_below BGi.out hb); have BHj := Aside0.mk (blk_below BHi.out hb); have BAj := Aside0.mk (blk_below BAi.out hb); have BBj := Aside0.mk (blk_below BBi.out hb); have BKj := Aside0.mk (blk_below BKi.out hb); clear hb))
  all_goals (go_wp2; go_ret; exact ⟨rfl, HBj.out⟩)
set_option maxHeartbeats 8000000 in
set_option maxRecDepth 100000 in
theorem fall_out (q : AskV) (x : AnsV) (A0 : Option Addr) (c0 : Nat) (l : List Int) (w : World) (hT : Tabs w)
    (h : 40000 < q.body.size ∨ 500 < q.name.size ∨ 40000 < x.body.size ∨ 5000 < l.length) :
    Calls Tryd.prog 9 #[.agg q.cells, .agg x.cells, .slice A0 l.length c0] w fun e w' => e = .returned (.bool true) ∧ Below w.heap.size w w' := by
  obtain ⟨k, name, f, lang, out, dst, mat, body⟩ := q
  obtain ⟨xe, xi, xr, xb⟩ := x
  simp only [AskV.cells, AnsV.cells] at *
  have HB0 := Aside0.mk (below_alloc (below_alloc (Below.refl w.heap.size w) (.cells #[.int .i64 k, .string name, .int .i64 f, .int .i64 lang, .int .i64 out, .int .i64 dst, .int .i64 mat, .string body] 29)) (.cells #[.int .i64 xe, .int .i64 xi, .int .i64 xr, .string xb] 32))
  have HW := Aside0.mk (fun w1 (h : Below w.heap.size w w1) => frame_awake_calls w1 (tabs_below hT h))
  clear hT
  have hc : (decide ((40000 : Int) < (body.size : Int)) = true) ∨ (decide ((40000 : Int) < (body.size : Int)) = false ∧ decide ((500 : Int) < (name.size : Int)) = true) ∨ (decide ((40000 : Int) < (body.size : Int)) = false ∧ decide ((500 : Int) < (name.size : Int)) = false ∧ decide ((40000 : Int) < (xb.size : Int)) = true)
      ∨ (decide ((40000 : Int) < (body.size : Int)) = false ∧ decide ((500 : Int) < (name.size : Int)) = false ∧ decide ((40000 : Int) < (xb.size : Int)) = false ∧ decide ((5000 : Int) < (l.length : Int)) = true) := by
    simp only [decide_eq_true_iff, decide_eq_false_iff_not]
    omega
  clear h
  rcases hc with d1 | ⟨d1, d2⟩ | ⟨d1, d2, d3⟩ | ⟨d1, d2, d3, d4⟩
  all_goals
    go_enter Tryd.func9, Tryd.ntmps9
    go_wp2_with (go_at_call 18; (with_reducible refine (HW.out _ HB0.out).mono ?_); rintro e7 w7 ⟨rfl, hb⟩; have HB7 := Aside0.mk (below_step HB0.out hb); clear hb)
    go_ret
    exact ⟨rfl, HB7.out⟩
theorem fall_all (q : AskV) (x : AnsV) (A0 : Option Addr) (c0 : Nat) (l : List Int) (w : World) (hT : Tabs w) (hr : (Kd.int .u8).C w A0 l.length l) (hc : l.length ≤ c0) (hy : Bytes l) :
    Calls Tryd.prog 9 #[.agg q.cells, .agg x.cells, .slice A0 l.length c0] w fun e w' => e = .returned (.bool true) ∧ Below w.heap.size w w' := by
  by_cases h : 40000 < q.body.size ∨ 500 < q.name.size ∨ 40000 < x.body.size ∨ 5000 < l.length
  · exact fall_out q x A0 c0 l w hT h
  · exact fall_in q x A0 c0 l w hT hr hc hy (by omega) (by omega) (by omega) (by omega)
end Go.Proofs.YtpamgedmgjfjjaaDoor.M
end
