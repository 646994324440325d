/-
Lemmas for FrameAll, for every input they speak of: XFCheck, XFPut, XFAwake, XFSizes.
-/
import Derived.Test.YtpamgedmgjfjjaaDoorKFrameAll04
import Derived.Test.YtpamgedmgjfjjaaDoorKFrameAll06
import Derived.Test.YtpamgedmgjfjjaaDoorKFrameAll08
import Derived.Lib.AppendStr
import Derived.Lib.OthersKept
import Derived.Deep.RegionHeld3
import Derived.Deep.AppendLies
section
namespace Go.Proofs.YtpamgedmgjfjjaaDoor.M
open Go.RowKit Go.Proofs.YtpamgedmgjfjjaaDoorW.PrintWords Go.Proofs.YtpamgedmgjfjjaaDoorW.PrintLast Go.Proofs.YtpamgedmgjfjjaaDoorW.PrintMore
set_option linter.unusedVariables false
set_option linter.unusedSimpArgs false
structure AskV where
  k : Int
  name : ByteArray
  f : Int
  lang : Int
  out : Int
  dst : Int
  mat : Int
  body : ByteArray
@[reducible] def AskV.cells (q : AskV) : Array Value := #[.int .i64 q.k, .string q.name, .int .i64 q.f, .int .i64 q.lang, .int .i64 q.out, .int .i64 q.dst, .int .i64 q.mat, .string q.body]
def inB (v lo hi : Int) : Bool := decide (lo ≤ v) && decide (v ≤ hi)
theorem frame_in_B (v lo hi : Int) : frame_in.f v lo hi = some (inB v lo hi) := by
  unfold frame_in.f inB
  by_cases h : v ≥ lo
  · rw [if_pos h, decide_eq_true (show lo ≤ v from h), Bool.true_and]
  · rw [if_neg h, decide_eq_false (show ¬ lo ≤ v from h), Bool.false_and]
theorem in_calls (v lo hi : Int) (b : Bool) (hb : inB v lo hi = b) (w : World) : Calls Tryd.prog 53 #[.int .i64 v, .int .i64 lo, .int .i64 hi] w fun e w' => e = .returned (.bool b) ∧ Drawn0 w w' := by
  subst hb
  exact frame_in.calls v lo hi _ w (frame_in_B v lo hi)
theorem box29 {w : World} {g : Nat} {k f lang out dst mat : Int} {name body : ByteArray}
    (h : w.heap[g]? = some (.cells #[.int .i64 k, .string name, .int .i64 f, .int .i64 lang, .int .i64 out, .int .i64 dst, .int .i64 mat, .string body] 29 (0, 0))) :
    w.cell? ⟨g, 0, none⟩ = some (.int .i64 k) ∧ w.cell? ⟨g, 1, none⟩ = some (.string name) ∧ w.cell? ⟨g, 2, none⟩ = some (.int .i64 f) ∧ w.cell? ⟨g, 3, none⟩ = some (.int .i64 lang) ∧
    w.cell? ⟨g, 4, none⟩ = some (.int .i64 out) ∧ w.cell? ⟨g, 5, none⟩ = some (.int .i64 dst) ∧ w.cell? ⟨g, 6, none⟩ = some (.int .i64 mat) ∧ w.cell? ⟨g, 7, none⟩ = some (.string body) :=
  ⟨(blk_cell h 0).trans rfl, (blk_cell h 1).trans rfl, (blk_cell h 2).trans rfl, (blk_cell h 3).trans rfl, (blk_cell h 4).trans rfl, (blk_cell h 5).trans rfl, (blk_cell h 6).trans rfl, (blk_cell h 7).trans rfl⟩
theorem heap_new (w : World) (o : Obj) : (w.alloc o).heap[w.heap.size]? = some o := by
  show (w.heap.push _)[w.heap.size]? = _
  exact Array.getElem?_push_size
theorem blk_below {w w1 : World} {g : Nat} {o : Obj} (h : w.heap[g]? = some o) (hb : Below w.heap.size w w1) : w1.heap[g]? = some o := (hb.block g (blk_lt h)).trans h
def AskV.ok (q : AskV) : Bool :=
  inB q.k 1 6 && (inB q.name.size 1 40 && (validU q.name q.name.size 0 && (inB q.f 0 3 && (inB q.out 0 3 && (inB q.lang 0 3 && (inB q.dst 0 3 && (inB q.mat 0 2147483647 && decide (q.body.size ≤ 32768))))))))
set_option maxHeartbeats 4000000 in
set_option maxRecDepth 100000 in
theorem check_calls (q : AskV) (w : World) (hT : Tabs w) (hn : q.name.size ≤ 140737488351232) (hbd : q.body.size ≤ 140737488351232) :
    Calls Tryd.prog 30 #[.agg q.cells] w fun e w' => e = .returned (.bool q.ok) ∧ Below w.heap.size w w' := by
  obtain ⟨k, name, f, lang, out, dst, mat, body⟩ := q
  simp only [AskV.cells, AskV.ok] at *
  have HB0 := Aside0.mk (below_alloc (Below.refl w.heap.size w) (.cells #[.int .i64 k, .string name, .int .i64 f, .int .i64 lang, .int .i64 out, .int .i64 dst, .int .i64 mat, .string body] 29))
  obtain ⟨b1, e1⟩ : ∃ b, inB k 1 6 = b := ⟨_, rfl⟩
  obtain ⟨b2, e2⟩ : ∃ b, inB name.size 1 40 = b := ⟨_, rfl⟩
  obtain ⟨b3, e3⟩ : ∃ b, validU name name.size 0 = b := ⟨_, rfl⟩
  obtain ⟨b4, e4⟩ : ∃ b, inB f 0 3 = b := ⟨_, rfl⟩
  obtain ⟨b5, e5⟩ : ∃ b, inB out 0 3 = b := ⟨_, rfl⟩
  obtain ⟨b6, e6⟩ : ∃ b, inB lang 0 3 = b := ⟨_, rfl⟩
  obtain ⟨b7, e7⟩ : ∃ b, inB dst 0 3 = b := ⟨_, rfl⟩
  obtain ⟨b8, e8⟩ : ∃ b, inB mat 0 2147483647 = b := ⟨_, rfl⟩
  rw [e1, e2, e3, e4, e5, e6, e7, e8]
  have H1 := Aside0.mk (in_calls k 1 6 b1 e1)
  have H2 := Aside0.mk (in_calls name.size 1 40 b2 e2)
  have H3 := Aside0.mk (fun w1 (h : Below w.heap.size w w1) => valid_c name b3 e3 w1 (tabs_below hT h))
  have H4 := Aside0.mk (in_calls f 0 3 b4 e4)
  have H5 := Aside0.mk (in_calls out 0 3 b5 e5)
  have H6 := Aside0.mk (in_calls lang 0 3 b6 e6)
  have H7 := Aside0.mk (in_calls dst 0 3 b7 e7)
  have H8 := Aside0.mk (in_calls mat 0 2147483647 b8 e8)
  clear hT e1 e2 e3 e4 e5 e6 e7 e8
  have BK0 := Aside0.mk (heap_new w (.cells #[.int .i64 k, .string name, .int .i64 f, .int .i64 lang, .int .i64 out, .int .i64 dst, .int .i64 mat, .string body] 29))
  cases b1
  · go_enter Tryd.func30, Tryd.ntmps30
    go_wp2_with (first
      | (go_at_call 53; (with_reducible refine (H1.out _).mono ?_); rintro e w1 ⟨rfl, hd⟩; have HB1 := Aside0.mk (below_step HB0.out hd.below); have BK1 := Aside0.mk (blk_below BK0.out hd.below); obtain ⟨c10, c11, c12, c13, c14, c15, c16, c17⟩ := box29 BK1.out; clear hd))
    go_ret
    exact ⟨rfl, HB1.out⟩
  cases b2
  · go_enter Tryd.func30, Tryd.ntmps30
    go_wp2_with (first
      | (go_at_call 53; (with_reducible refine (H1.out _).mono ?_); rintro e w1 ⟨rfl, hd⟩; have HB1 := Aside0.mk (below_step HB0.out hd.below); have BK1 := Aside0.mk (blk_below BK0.out hd.below); obtain ⟨c10, c11, c12, c13, c14, c15, c16, c17⟩ := box29 BK1.out; clear hd)
      | (go_at_call 53; (with_reducible refine (H2.out _).mono ?_); rintro e w2 ⟨rfl, hd⟩; have HB2 := Aside0.mk (below_step HB1.out hd.below); have BK2 := Aside0.mk (blk_below BK1.out hd.below); obtain ⟨c20, c21, c22, c23, c24, c25, c26, c27⟩ := box29 BK2.out; clear hd c10 c11 c12 c13 c14 c15 c16 c17))
    go_ret
    exact ⟨rfl, HB2.out⟩
  cases b3
  · go_enter Tryd.func30, Tryd.ntmps30
    go_wp2_with (first
      | (go_at_call 53; (with_reducible refine (H1.out _).mono ?_); rintro e w1 ⟨rfl, hd⟩; have HB1 := Aside0.mk (below_step HB0.out hd.below); have BK1 := Aside0.mk (blk_below BK0.out hd.below); obtain ⟨c10, c11, c12, c13, c14, c15, c16, c17⟩ := box29 BK1.out; clear hd)
      | (go_at_call 53; (with_reducible refine (H2.out _).mono ?_); rintro e w2 ⟨rfl, hd⟩; have HB2 := Aside0.mk (below_step HB1.out hd.below); have BK2 := Aside0.mk (blk_below BK1.out hd.below); obtain ⟨c20, c21, c22, c23, c24, c25, c26, c27⟩ := box29 BK2.out; clear hd c10 c11 c12 c13 c14 c15 c16 c17)
      | (go_at_call 14; (with_reducible refine (H3.out _ HB2.out).mono ?_); rintro e w3 ⟨rfl, hd⟩; have HB3 := Aside0.mk (below_step HB2.out hd); have BK3 := Aside0.mk (blk_below BK2.out hd); obtain ⟨c30, c31, c32, c33, c34, c35, c36, c37⟩ := box29 BK3.out; clear hd c20 c21 c22 c23 c24 c25 c26 c27))
    go_ret
    exact ⟨rfl, HB3.out⟩
  cases b4
  · go_enter Tryd.func30, Tryd.ntmps30
    go_wp2_with (first
      | (go_at_call 53; (with_reducible refine (H1.out _).mono ?_); rintro e w1 ⟨rfl, hd⟩; have HB1 := Aside0.mk (below_step HB0.out hd.below); have BK1 := Aside0.mk (blk_below BK0.out hd.below); obtain ⟨c10, c11, c12, c13, c14, c15, c16, c17⟩ := box29 BK1.out; clear hd)
      | (go_at_call 53; (with_reducible refine (H2.out _).mono ?_); rintro e w2 ⟨rfl, hd⟩; have HB2 := Aside0.mk (below_step HB1.out hd.below); have BK2 := Aside0.mk (blk_below BK1.out hd.below); obtain ⟨c20, c21, c22, c23, c24, c25, c26, c27⟩ := box29 BK2.out; clear hd c10 c11 c12 c13 c14 c15 c16 c17)
      | (go_at_call 14; (with_reducible refine (H3.out _ HB2.out).mono ?_); rintro e w3 ⟨rfl, hd⟩; have HB3 := Aside0.mk (below_step HB2.out hd); have BK3 := Aside0.mk (blk_below BK2.out hd); obtain ⟨c30, c31, c32, c33, c34, c35, c36, c37⟩ := box29 BK3.out; clear hd c20 c21 c22 c23 c24 c25 c26 c27)
      | (go_at_call 53; (with_reducible refine (H4.out _).mono ?_); rintro e w4 ⟨rfl, hd⟩; have HB4 := Aside0.mk (below_step HB3.out hd.below); have BK4 := Aside0.mk (blk_below BK3.out hd.below); obtain ⟨c40, c41, c42, c43, c44, c45, c46, c47⟩ := box29 BK4.out; clear hd c30 c31 c32 c33 c34 c35 c36 c37))
    go_ret
    exact ⟨rfl, HB4.out⟩
  cases b5
  · go_enter Tryd.func30, Tryd.ntmps30
    go_wp2_with (first
      | (go_at_call 53; (with_reducible refine (H1.out _).mono ?_); rintro e w1 ⟨rfl, hd⟩; have HB1 := Aside0.mk (below_step HB0.out hd.below); have BK1 := Aside0.mk (blk_below BK0.out hd.below); obtain ⟨c10, c11, c12, c13, c14, c15, c16, c17⟩ := box29 BK1.out; clear hd)
      | (go_at_call 53; (with_reducible refine (H2.out _).mono ?_); rintro e w2 ⟨rfl, hd⟩; have HB2 := Aside0.mk (below_step HB1.out hd.below); have BK2 := Aside0.mk (blk_below BK1.out hd.below); obtain ⟨c20, c21, c22, c23, c24, c25, c26, c27⟩ := box29 BK2.out; clear hd c10 c11 c12 c13 c14 c15 c16 c17)
      | (go_at_call 14; (with_reducible refine (H3.out _ HB2.out).mono ?_); rintro e w3 ⟨rfl, hd⟩; have HB3 := Aside0.mk (below_step HB2.out hd); have BK3 := Aside0.mk (blk_below BK2.out hd); obtain ⟨c30, c31, c32, c33, c34, c35, c36, c37⟩ := box29 BK3.out; clear hd c20 c21 c22 c23 c24 c25 c26 c27)
      | (go_at_call 53; (with_reducible refine (H4.out _).mono ?_); rintro e w4 ⟨rfl, hd⟩; have HB4 := Aside0.mk (below_step HB3.out hd.below); have BK4 := Aside0.mk (blk_below BK3.out hd.below); obtain ⟨c40, c41, c42, c43, c44, c45, c46, c47⟩ := box29 BK4.out; clear hd c30 c31 c32 c33 c34 c35 c36 c37)
      | (go_at_call 53; (with_reducible refine (H5.out _).mono ?_); rintro e w5 ⟨rfl, hd⟩; have HB5 := Aside0.mk (below_step HB4.out hd.below); have BK5 := Aside0.mk (blk_below BK4.out hd.below); obtain ⟨c50, c51, c52, c53, c54, c55, c56, c57⟩ := box29 BK5.out; clear hd c40 c41 c42 c43 c44 c45 c46 c47))
    go_ret
    exact ⟨rfl, HB5.out⟩
  cases b6
  · go_enter Tryd.func30, Tryd.ntmps30
    go_wp2_with (first
      | (go_at_call 53; (with_reducible refine (H1.out _).mono ?_); rintro e w1 ⟨rfl, hd⟩; have HB1 := Aside0.mk (below_step HB0.out hd.below); have BK1 := Aside0.mk (blk_below BK0.out hd.below); obtain ⟨c10, c11, c12, c13, c14, c15, c16, c17⟩ := box29 BK1.out; clear hd)
      | (go_at_call 53; (with_reducible refine (H2.out _).mono ?_); rintro e w2 ⟨rfl, hd⟩; have HB2 := Aside0.mk (below_step HB1.out hd.below); have BK2 := Aside0.mk (blk_below BK1.out hd.below); obtain ⟨c20, c21, c22, c23, c24, c25, c26, c27⟩ := box29 BK2.out; clear hd c10 c11 c12 c13 c14 c15 c16 c17)
      | (go_at_call 14; (with_reducible refine (H3.out _ HB2.out).mono ?_); rintro e w3 ⟨rfl, hd⟩; have HB3 := Aside0.mk (below_step HB2.out hd); have BK3 := Aside0.mk (blk_below BK2.out hd); obtain ⟨c30, c31, c32, c33, c34, c35, c36, c37⟩ := box29 BK3.out; clear hd c20 c21 c22 c23 c24 c25 c26 c27)
      | (go_at_call 53; (with_reducible refine (H4.out _).mono ?_); rintro e w4 ⟨rfl, hd⟩; have HB4 := Aside0.mk (below_step HB3.out hd.below); have BK4 := Aside0.mk (blk_below BK3.out hd.below); obtain ⟨c40, c41, c42, c43, c44, c45, c46, c47⟩ := box29 BK4.out; clear hd c30 c31 c32 c33 c34 c35 c36 c37)
      | (go_at_call 53; (with_reducible refine (H5.out _).mono ?_); rintro e w5 ⟨rfl, hd⟩; have HB5 := Aside0.mk (below_step HB4.out hd.below); have BK5 := Aside0.mk (blk_below BK4.out hd.below); obtain ⟨c50, c51, c52, c53, c54, c55, c56, c57⟩ := box29 BK5.out; clear hd c40 c41 c42 c43 c44 c45 c46 c47)
      | (go_at_call 53; (with_reducible refine (H6.out _).mono ?_); rintro e w6 ⟨rfl, hd⟩; have HB6 := Aside0.mk (below_step HB5.out hd.below); have BK6 := Aside0.mk (blk_below BK5.out hd.below); obtain ⟨c60, c61, c62, c63, c64, c65, c66, c67⟩ := box29 BK6.out; clear hd c50 c51 c52 c53 c54 c55 c56 c57))
    go_ret
    exact ⟨rfl, HB6.out⟩
  cases b7
  · go_enter Tryd.func30, Tryd.ntmps30
    go_wp2_with (first
      | (go_at_call 53; (with_reducible refine (H1.out _).mono ?_); rintro e w1 ⟨rfl, hd⟩; have HB1 := Aside0.mk (below_step HB0.out hd.below); have BK1 := Aside0.mk (blk_below BK0.out hd.below); obtain ⟨c10, c11, c12, c13, c14, c15, c16, c17⟩ := box29 BK1.out; clear hd)
      | (go_at_call 53; (with_reducible refine (H2.out _).mono ?_); rintro e w2 ⟨rfl, hd⟩; have HB2 := Aside0.mk (below_step HB1.out hd.below); have BK2 := Aside0.mk (blk_below BK1.out hd.below); obtain ⟨c20, c21, c22, c23, c24, c25, c26, c27⟩ := box29 BK2.out; clear hd c10 c11 c12 c13 c14 c15 c16 c17)
      | (go_at_call 14; (with_reducible refine (H3.out _ HB2.out).mono ?_); rintro e w3 ⟨rfl, hd⟩; have HB3 := Aside0.mk (below_step HB2.out hd); have BK3 := Aside0.mk (blk_below BK2.out hd); obtain ⟨c30, c31, c32, c33, c34, c35, c36, c37⟩ := box29 BK3.out; clear hd c20 c21 c22 c23 c24 c25 c26 c27)
      | (go_at_call 53; (with_reducible refine (H4.out _).mono ?_); rintro e w4 ⟨rfl, hd⟩; have HB4 := Aside0.mk (below_step HB3.out hd.below); have BK4 := Aside0.mk (blk_below BK3.out hd.below); obtain ⟨c40, c41, c42, c43, c44, c45, c46, c47⟩ := box29 BK4.out; clear hd c30 c31 c32 c33 c34 c35 c36 c37)
      | (go_at_call 53; (with_reducible refine (H5.out _).mono ?_); rintro e w5 ⟨rfl, hd⟩; have HB5 := Aside0.mk (below_step HB4.out hd.below); have BK5 := Aside0.mk (blk_below BK4.out hd.below); obtain ⟨c50, c51, c52, c53, c54, c55, c56, c57⟩ := box29 BK5.out; clear hd c40 c41 c42 c43 c44 c45 c46 c47)
      | (go_at_call 53; (with_reducible refine (H6.out _).mono ?_); rintro e w6 ⟨rfl, hd⟩; have HB6 := Aside0.mk (below_step HB5.out hd.below); have BK6 := Aside0.mk (blk_below BK5.out hd.below); obtain ⟨c60, c61, c62, c63, c64, c65, c66, c67⟩ := box29 BK6.out; clear hd c50 c51 c52 c53 c54 c55 c56 c57)
      | (go_at_call 53; (with_reducible refine (H7.out _).mono ?_); rintro e w7 ⟨rfl, hd⟩; have HB7 := Aside0.mk (below_step HB6.out hd.below); have BK7 := Aside0.mk (blk_below BK6.out hd.below); obtain ⟨c70, c71, c72, c73, c74, c75, c76, c77⟩ := box29 BK7.out; clear hd c60 c61 c62 c63 c64 c65 c66 c67))
    go_ret
    exact ⟨rfl, HB7.out⟩
  cases b8
  · go_enter Tryd.func30, Tryd.ntmps30
    go_wp2_with (first
      | (go_at_call 53; (with_reducible refine (H1.out _).mono ?_); rintro e w1 ⟨rfl, hd⟩; have HB1 := Aside0.mk (below_step HB0.out hd.below); have BK1 := Aside0.mk (blk_below BK0.out hd.below); obtain ⟨c10, c11, c12, c13, c14, c15, c16, c17⟩ := box29 BK1.out; clear hd)
      | (go_at_call 53; (with_reducible refine (H2.out _).mono ?_); rintro e w2 ⟨rfl, hd⟩; have HB2 := Aside0.mk (below_step HB1.out hd.below); have BK2 := Aside0.mk (blk_below BK1.out hd.below); obtain ⟨c20, c21, c22, c23, c24, c25, c26, c27⟩ := box29 BK2.out; clear hd c10 c11 c12 c13 c14 c15 c16 c17)
      | (go_at_call 14; (with_reducible refine (H3.out _ HB2.out).mono ?_); rintro e w3 ⟨rfl, hd⟩; have HB3 := Aside0.mk (below_step HB2.out hd); have BK3 := Aside0.mk (blk_below BK2.out hd); obtain ⟨c30, c31, c32, c33, c34, c35, c36, c37⟩ := box29 BK3.out; clear hd c20 c21 c22 c23 c24 c25 c26 c27)
      | (go_at_call 53; (with_reducible refine (H4.out _).mono ?_); rintro e w4 ⟨rfl, hd⟩; have HB4 := Aside0.mk (below_step HB3.out hd.below); have BK4 := Aside0.mk (blk_below BK3.out hd.below); obtain ⟨c40, c41, c42, c43, c44, c45, c46, c47⟩ := box29 BK4.out; clear hd c30 c31 c32 c33 c34 c35 c36 c37)
      | (go_at_call 53; (with_reducible refine (H5.out _).mono ?_); rintro e w5 ⟨rfl, hd⟩; have HB5 := Aside0.mk (below_step HB4.out hd.below); have BK5 := Aside0.mk (blk_below BK4.out hd.below); obtain ⟨c50, c51, c52, c53, c54, c55, c56, c57⟩ := box29 BK5.out; clear hd c40 c41 c42 c43 c44 c45 c46 c47)
      | (go_at_call 53; (with_reducible refine (H6.out _).mono ?_); rintro e w6 ⟨rfl, hd⟩; have HB6 := Aside0.mk (below_step HB5.out hd.below); have BK6 := Aside0.mk (blk_below BK5.out hd.below); obtain ⟨c60, c61, c62, c63, c64, c65, c66, c67⟩ := box29 BK6.out; clear hd c50 c51 c52 c53 c54 c55 c56 c57)
      | (go_at_call 53; (with_reducible refine (H7.out _).mono ?_); rintro e w7 ⟨rfl, hd⟩; have HB7 := Aside0.mk (below_step HB6.out hd.below); have BK7 := Aside0.mk (blk_below BK6.out hd.below); obtain ⟨c70, c71, c72, c73, c74, c75, c76, c77⟩ := box29 BK7.out; clear hd c60 c61 c62 c63 c64 c65 c66 c67)
      | (go_at_call 53; (with_reducible refine (H8.out _).mono ?_); rintro e w8 ⟨rfl, hd⟩; have HB8 := Aside0.mk (below_step HB7.out hd.below); have BK8 := Aside0.mk (blk_below BK7.out hd.below); obtain ⟨c80, c81, c82, c83, c84, c85, c86, c87⟩ := box29 BK8.out; clear hd c70 c71 c72 c73 c74 c75 c76 c77))
    go_ret
    exact ⟨rfl, HB8.out⟩
  by_cases hb9 : body.size ≤ 32768
  · have d9 : decide (body.size ≤ 32768) = true := decide_eq_true hb9
    have e9 : decide ((body.size : Int) ≤ 32768) = true := decide_eq_true (by omega)
    rw [d9]
    go_enter Tryd.func30, Tryd.ntmps30
    go_wp2_with (first
      | (go_at_call 53; (with_reducible refine (H1.out _).mono ?_); rintro e w1 ⟨rfl, hd⟩; have HB1 := Aside0.mk (below_step HB0.out hd.below); have BK1 := Aside0.mk (blk_below BK0.out hd.below); obtain ⟨c10, c11, c12, c13, c14, c15, c16, c17⟩ := box29 BK1.out; clear hd)
      | (go_at_call 53; (with_reducible refine (H2.out _).mono ?_); rintro e w2 ⟨rfl, hd⟩; have HB2 := Aside0.mk (below_step HB1.out hd.below); have BK2 := Aside0.mk (blk_below BK1.out hd.below); obtain ⟨c20, c21, c22, c23, c24, c25, c26, c27⟩ := box29 BK2.out; clear hd c10 c11 c12 c13 c14 c15 c16 c17)
      | (go_at_call 14; (with_reducible refine (H3.out _ HB2.out).mono ?_); rintro e w3 ⟨rfl, hd⟩; have HB3 := Aside0.mk (below_step HB2.out hd); have BK3 := Aside0.mk (blk_below BK2.out hd); obtain ⟨c30, c31, c32, c33, c34, c35, c36, c37⟩ := box29 BK3.out; clear hd c20 c21 c22 c23 c24 c25 c26 c27)
      | (go_at_call 53; (with_reducible refine (H4.out _).mono ?_); rintro e w4 ⟨rfl, hd⟩; have HB4 := Aside0.mk (below_step HB3.out hd.below); have BK4 := Aside0.mk (blk_below BK3.out hd.below); obtain ⟨c40, c41, c42, c43, c44, c45, c46, c47⟩ := box29 BK4.out; clear hd c30 c31 c32 c33 c34 c35 c36 c37)
      | (go_at_call 53; (with_reducible refine (H5.out _).mono ?_); rintro e w5 ⟨rfl, hd⟩; have HB5 := Aside0.mk (below_step HB4.out hd.below); have BK5 := Aside0.mk (blk_below BK4.out hd.below); obtain ⟨c50, c51, c52, c53, c54, c55, c56, c57⟩ := box29 BK5.out; clear hd c40 c41 c42 c43 c44 c45 c46 c47)
      | (go_at_call 53; (with_reducible refine (H6.out _).mono ?_); rintro e w6 ⟨rfl, hd⟩; have HB6 := Aside0.mk (below_step HB5.out hd.below); have BK6 := Aside0.mk (blk_below BK5.out hd.below); obtain ⟨c60, c61, c62, c63, c64, c65, c66, c67⟩ := box29 BK6.out; clear hd c50 c51 c52 c53 c54 c55 c56 c57)
      | (go_at_call 53; (with_reducible refine (H7.out _).mono ?_); rintro e w7 ⟨rfl, hd⟩; have HB7 := Aside0.mk (below_step HB6.out hd.below); have BK7 := Aside0.mk (blk_below BK6.out hd.below); obtain ⟨c70, c71, c72, c73, c74, c75, c76, c77⟩ := box29 BK7.out; clear hd c60 c61 c62 c63 c64 c65 c66 c67)
      | (go_at_call 53; (with_reducible refine (H8.out _).mono ?_); rintro e w8 ⟨rfl, hd⟩; have HB8 := Aside0.mk (below_step HB7.out hd.below); have BK8 := Aside0.mk (blk_below BK7.out hd.below); obtain ⟨c80, c81, c82, c83, c84, c85, c86, c87⟩ := box29 BK8.out; clear hd c70 c71 c72 c73 c74 c75 c76 c77))
    go_ret
    exact ⟨rfl, HB8.out⟩
  · have d9 : decide (body.size ≤ 32768) = false := decide_eq_false hb9
    have e9 : decide ((body.size : Int) ≤ 32768) = false := decide_eq_false (by omega)
    rw [d9]
    go_enter Tryd.func30, Tryd.ntmps30
    go_wp2_with (first
      | (go_at_call 53; (with_reducible refine (H1.out _).mono ?_); rintro e w1 ⟨rfl, hd⟩; have HB1 := Aside0.mk (below_step HB0.out hd.below); have BK1 := Aside0.mk (blk_below BK0.out hd.below); obtain ⟨c10, c11, c12, c13, c14, c15, c16, c17⟩ := box29 BK1.out; clear hd)
      | (go_at_call 53; (with_reducible refine (H2.out _).mono ?_); rintro e w2 ⟨rfl, hd⟩; have HB2 := Aside0.mk (below_step HB1.out hd.below); have BK2 := Aside0.mk (blk_below BK1.out hd.below); obtain ⟨c20, c21, c22, c23, c24, c25, c26, c27⟩ := box29 BK2.out; clear hd c10 c11 c12 c13 c14 c15 c16 c17)
      | (go_at_call 14; (with_reducible refine (H3.out _ HB2.out).mono ?_); rintro e w3 ⟨rfl, hd⟩; have HB3 := Aside0.mk (below_step HB2.out hd); have BK3 := Aside0.mk (blk_below BK2.out hd); obtain ⟨c30, c31, c32, c33, c34, c35, c36, c37⟩ := box29 BK3.out; clear hd c20 c21 c22 c23 c24 c25 c26 c27)
      | (go_at_call 53; (with_reducible refine (H4.out _).mono ?_); rintro e w4 ⟨rfl, hd⟩; have HB4 := Aside0.mk (below_step HB3.out hd.below); have BK4 := Aside0.mk (blk_below BK3.out hd.below); obtain ⟨c40, c41, c42, c43, c44, c45, c46, c47⟩ := box29 BK4.out; clear hd c30 c31 c32 c33 c34 c35 c36 c37)
      | (go_at_call 53; (with_reducible refine (H5.out _).mono ?_); rintro e w5 ⟨rfl, hd⟩; have HB5 := Aside0.mk (below_step HB4.out hd.below); have BK5 := Aside0.mk (blk_below BK4.out hd.below); obtain ⟨c50, c51, c52, c53, c54, c55, c56, c57⟩ := box29 BK5.out; clear hd c40 c41 c42 c43 c44 c45 c46 c47)
      | (go_at_call 53; (with_reducible refine (H6.out _).mono ?_); rintro e w6 ⟨rfl, hd⟩; have HB6 := Aside0.mk (below_step HB5.out hd.below); have BK6 := Aside0.mk (blk_below BK5.out hd.below); obtain ⟨c60, c61, c62, c63, c64, c65, c66, c67⟩ := box29 BK6.out; clear hd c50 c51 c52 c53 c54 c55 c56 c57)
      | (go_at_call 53; (with_reducible refine (H7.out _).mono ?_); rintro e w7 ⟨rfl, hd⟩; have HB7 := Aside0.mk (below_step HB6.out hd.below); have BK7 := Aside0.mk (blk_below BK6.out hd.below); obtain ⟨c70, c71, c72, c73, c74, c75, c76, c77⟩ := box29 BK7.out; clear hd c60 c61 c62 c63 c64 c65 c66 c67)
      | (go_at_call 53; (with_reducible refine (H8.out _).mono ?_); rintro e w8 ⟨rfl, hd⟩; have HB8 := Aside0.mk (below_step HB7.out hd.below); have BK8 := Aside0.mk (blk_below BK7.out hd.below); obtain ⟨c80, c81, c82, c83, c84, c85, c86, c87⟩ := box29 BK8.out; clear hd c70 c71 c72 c73 c74 c75 c76 c77))
    go_ret
    exact ⟨rfl, HB8.out⟩
end Go.Proofs.YtpamgedmgjfjjaaDoor.M
end
section
namespace Go.Proofs.YtpamgedmgjfjjaaDoor.M
open Go.RowKit Go.Proofs.YtpamgedmgjfjjaaDoorW.PrintWords Go.Proofs.YtpamgedmgjfjjaaDoorW.PrintLast Go.Proofs.YtpamgedmgjfjjaaDoorW.PrintMore
set_option linter.unusedVariables false
set_option linter.unusedSimpArgs false
def fourL (n : Int) : List Int := [n / 16777216 % 256, n / 65536 % 256, n / 256 % 256, n % 256]
theorem fourL_len (n : Int) : (fourL n).length = 4 := rfl
theorem own_kind {w : World} {B : Nat} {v : Value} {n : Nat} {xs : List Value} (h : w.ownsRow B 5 1 v n xs) : ∀ k, v.ownBlock = some k → ∃ c fz, w.heap[k]? = some (.cells c 5 fz) := by
  intro k hk
  rcases h.2 with ⟨rfl, _⟩ | ⟨g, cap, cur, rfl, _, hg, _⟩
  · simp [Value.ownBlock] at hk
  · simp [Value.ownBlock] at hk
    subst hk
    exact ⟨_, _, hg⟩
set_option maxHeartbeats 2000000 in
set_option maxRecDepth 100000 in
theorem four_own (B : Nat) (v : Value) (l : List Int) (n : Int) (w : World) (hown : w.ownsRow B 5 1 v l.length (nums .u8 l)) (hl : l.length ≤ 1000000) (hB : B ≤ w.heap.size) :
    Calls Tryd.prog 46 #[v, .int .i64 n] w fun e w' => ∃ v', e = .returned v' ∧ w'.ownsRow B 5 1 v' (l ++ fourL n).length (nums .u8 (l ++ fourL n)) ∧ Below B w w' ∧ Lib.OthersKept 5 none w w' := by
  obtain ⟨i0, hi, hz0, hz1, hz2⟩ := info_parts info5
  have HL := Aside0.mk hl
  have HB := Aside0.mk hB
  have HN := Aside0.mk (show nums .u8 l ++ [.int .u8 (n / 16777216 % 256), .int .u8 (n / 65536 % 256), .int .u8 (n / 256 % 256), .int .u8 (n % 256)] = nums .u8 (l ++ fourL n) by simp [nums, fourL])
  have HK := Aside0.mk (own_kind (hown.alloc (.cells #[.int .u8 (n / 16777216 % 256), .int .u8 (n / 65536 % 256), .int .u8 (n / 256 % 256), .int .u8 (n % 256)] 5)))
  have HO := Aside0.mk hown
  clear hown hl hB
  go_enter Tryd.func46, Tryd.ntmps46
  go_wp2_with (at_builtin; refine wpList_append_own _ rfl _ _ 33 rfl B 5 i0 (.int .u8 0) 1 1 Tryd.underlying33 hi hz0 hz1 hz2 rfl (by decide) _ _ _ rfl (HO.out.alloc _) ⟨w.heap.size, 0, none⟩ 4 4 [.int .u8 (n / 16777216 % 256), .int .u8 (n / 65536 % 256), .int .u8 (n / 256 % 256), .int .u8 (n % 256)] rfl rfl ?c1 ?c2 ?c3 ?c4 ?c5 ?_)
  case c1 =>
    intro j u hj
    match j, hj with
    | 0, hj => simp at hj; subst hj; simp [Addr.add]
    | 1, hj => simp at hj; subst hj; simp [Addr.add]
    | 2, hj => simp at hj; subst hj; simp [Addr.add]
    | 3, hj => simp at hj; subst hj; simp [Addr.add]
  case c2 => intro u hu; simp at hu; rcases hu with rfl | rfl | rfl | rfl <;> rfl
  case c3 => unfold maxLen; have := HL.out; omega
  case c4 => have := HL.out; omega
  case c5 => have := HB.out; simp; omega
  intro v' w2 hown' hgrow _
  have HB2 := Aside0.mk (((Below.refl B w).alloc HB.out _).grown hgrow (by have := HB.out; simp; omega) (fun k hk => (HO.out.lt k hk).1))
  have HOK := Aside0.mk (((Lib.OthersKept.refl 5 none w).alloc (.cells #[.int .u8 (n / 16777216 % 256), .int .u8 (n / 65536 % 256), .int .u8 (n / 256 % 256), .int .u8 (n % 256)] 5)).grown hgrow HK.out)
  rw [HN.out] at hown'
  have HOW := Aside0.mk hown'
  clear hgrow hown'
  go_wp2
  go_ret
  exact ⟨_, rfl, by rw [List.length_append, fourL_len]; exact HOW.out, HB2.out, HOK.out⟩
theorem step_append_str {P : Program} {ops : Array Oper} {o : Oper} {a : Act} {w : World} {K : Act → World → Prop} {Q : Exit → Act → World → Prop} {E : Prop}
    (hgd : o.guard = none) (sl x : Operand) (t u : TypeId) (ho : o.op = .call { callee := .builtin .append, args := #[sl, x], argTypes := #[t, u] })
    (base : Nat) (e : TypeId) (i : TypeInfo) (ht : P.underlying t = some (.slice e)) (hu : P.underlying u = some .string) (hi : P.info? e = some i) (hz : i.zero = some (.int .u8 0))
    (hsize : i.size = 1) (hby : i.bytes = 1) (v : Value) (n : Nat) (xs : List Value) (hs : a.eval sl = v) (hown : w.ownsRow base e 1 v n xs) (s : ByteArray) (hx : a.eval x = .string s)
    (h63 : n + s.size ≤ maxLen) (hbytes : n + s.size ≤ 140737488355328) (hbase : base ≤ w.heap.size)
    (h : ∀ v' w', w'.ownsRow base e 1 v' (n + s.size) (xs ++ Lib.strCells s) → w.grownBy w' v.ownBlock → K (a.put o.dst v') w') :
    if Region.wanted o (yielded ops a.tmps) = true then Oper.wp P o a w K Q else E := by
  have hw : Region.wanted o (yielded ops a.tmps) = true := by simp [Region.wanted, hgd]
  rw [if_pos hw]
  obtain ⟨v', w', hr, h2, h3, h4⟩ := Lib.run_append_own_string (P := P) w base t u o.type e i ht hu hi hz hsize hby v n xs hown s h63 hbytes hbase
  unfold Oper.wp execOp
  simp only [ho, resolve, invoke, builtin, Sem.run_bind, Sem.run_pure, Result.andThen_ok, List.map_toArray, List.map_cons, List.map_nil, hs, hx, hr]
  exact h _ _ h2 h3
theorem strCells_nums (s : ByteArray) : Lib.strCells s = nums .u8 (bytesOf s) := by simp [Lib.strCells, nums, bytesOf]
theorem own_str {w : World} {B : Nat} {v : Value} {l : List Int} {s : ByteArray} (h : w.ownsRow B 5 1 v (l.length + s.size) (nums .u8 l ++ Lib.strCells s)) : w.ownsRow B 5 1 v (l ++ bytesOf s).length (nums .u8 (l ++ bytesOf s)) := by
  rw [strCells_nums, ← nums_append] at h
  rw [List.length_append, bytesOf_length]
  exact h
theorem kept_blk {w w' : World} {g : Nat} {cs : Array Value} {T : TypeId} (h : w.heap[g]? = some (.cells cs T (0, 0))) (hk : Lib.OthersKept 5 none w w') (hT : T ≠ 5) : w'.heap[g]? = some (.cells cs T (0, 0)) :=
  hk g _ h (by simp) (fun c fz he => by injection he with _ h2; exact hT h2)
def AskV.head (q : AskV) : List Int := [q.k % 256, q.f % 256, q.lang % 256, q.out % 256, q.dst % 256, (q.name.size : Int)]
def AskV.put (q : AskV) : List Int := q.head ++ bytesOf q.name ++ fourL q.mat ++ fourL q.body.size ++ bytesOf q.body
set_option maxHeartbeats 4000000 in
set_option maxRecDepth 100000 in
theorem put_calls (q : AskV) (w : World) (hT : Tabs w) (hn : q.name.size ≤ 140737488351232) (hbd : q.body.size ≤ 140737488351232) (hok : q.ok = true) :
    Calls Tryd.prog 19 #[.agg q.cells] w fun e w' => ∃ v, e = .returned (.tuple #[v, .int .i64 0]) ∧ w'.ownsRow w.heap.size 5 1 v q.put.length (nums .u8 q.put) ∧ Below w.heap.size w w' := by
  have HC := Aside0.mk (fun w1 (h : Below w.heap.size w w1) => check_calls q w1 (tabs_below hT h) hn hbd)
  rw [hok] at HC
  obtain ⟨pl, hpl⟩ : ∃ l, q.put = l := ⟨_, rfl⟩
  rw [hpl]
  have HPL := Aside0.mk hpl
  clear hpl
  obtain ⟨k, name, f, lang, out, dst, mat, body⟩ := q
  simp only [AskV.cells, AskV.put, AskV.head] at *
  have hsz : name.size ≤ 40 ∧ body.size ≤ 32768 := by
    simp only [AskV.ok, inB, Bool.and_eq_true, decide_eq_true_eq] at hok
    omega
  obtain ⟨hsn, hsb⟩ := hsz
  have HB0 := Aside0.mk (below_alloc (Below.refl w.heap.size w) (.cells #[.int .i64 k, .string name, .int .i64 f, .int .i64 lang, .int .i64 out, .int .i64 dst, .int .i64 mat, .string body] 29))
  have BK0 := Aside0.mk (heap_new w (.cells #[.int .i64 k, .string name, .int .i64 f, .int .i64 lang, .int .i64 out, .int .i64 dst, .int .i64 mat, .string body] 29))
  clear hT hok
  go_enter Tryd.func19, Tryd.ntmps19
  go_upto_region 4 with (first
    | (go_at_call 30; (with_reducible refine (HC.out _ HB0.out).mono ?_); rintro e w1 ⟨rfl, hb⟩; have HB1 := Aside0.mk (below_step HB0.out hb); have BK1 := Aside0.mk (blk_below BK0.out hb); obtain ⟨c0, c1, c2, c3, c4, c5, c6, c7⟩ := box29 BK1.out; clear hb))
  have how := own_lit w1 w.heap.size 5 .u8 [k % 256, f % 256, lang % 256, out % 256, dst % 256, (name.size : Int)] HB1.out.size (by simp)
  have hb2 := below_alloc HB1.out (Obj.cells #[Value.int IntKind.u8 (k % 256), Value.int IntKind.u8 (f % 256), Value.int IntKind.u8 (lang % 256), Value.int IntKind.u8 (out % 256), Value.int IntKind.u8 (dst % 256), Value.int IntKind.u8 ↑name.size] 5)
  have bk2 := blk_below BK1.out (below_alloc (Below.refl _ _) (Obj.cells #[Value.int IntKind.u8 (k % 256), Value.int IntKind.u8 (f % 256), Value.int IntKind.u8 (lang % 256), Value.int IntKind.u8 (out % 256), Value.int IntKind.u8 (dst % 256), Value.int IntKind.u8 ↑name.size] 5))
  simp only [nums, List.map_cons, List.map_nil, List.length_cons, List.length_nil] at how
  generalize hw2 : w1.alloc (Obj.cells #[Value.int IntKind.u8 (k % 256), Value.int IntKind.u8 (f % 256), Value.int IntKind.u8 (lang % 256), Value.int IntKind.u8 (out % 256), Value.int IntKind.u8 (dst % 256), Value.int IntKind.u8 ↑name.size] 5) = w2 at how hb2 bk2 ⊢
  have HOW := Aside0.mk (show w2.ownsRow w.heap.size 5 1 (.slice (some ⟨w1.heap.size, 0, none⟩) 6 6) ([k % 256, f % 256, lang % 256, out % 256, dst % 256, (name.size : Int)] : List Int).length (nums .u8 [k % 256, f % 256, lang % 256, out % 256, dst % 256, (name.size : Int)]) from how)
  have HB2 := Aside0.mk hb2
  have BK2 := Aside0.mk bk2
  clear how hb2 bk2 hw2 c0 c1 c2 c3 c4 c5 c6 c7 BK0 HB0 BK1 HB1 HC
  obtain ⟨hd, hhd⟩ : ∃ l : List Int, [k % 256, f % 256, lang % 256, out % 256, dst % 256, (name.size : Int)] = l := ⟨_, rfl⟩
  rw [hhd] at HOW HPL
  have HHL := Aside0.mk (show hd.length = 6 by rw [← hhd]; rfl)
  clear hhd
  obtain ⟨i0, hi, hz0, hz1, hz2⟩ := info_parts info5
  go_cut [4] from 28 to 34 (fun s4 wx => Aside0 (wx.ownsRow w.heap.size 5 1 s4 (hd ++ bytesOf name ++ fourL mat).length (nums .u8 (hd ++ bytesOf name ++ fourL mat))) ∧ Aside0 (Below w.heap.size w wx) ∧ Aside0 (wx.heap[w.heap.size]? = some (.cells #[.int .i64 k, .string name, .int .i64 f, .int .i64 lang, .int .i64 out, .int .i64 dst, .int .i64 mat, .string body] 29 (0, 0))))
  case first =>
    obtain ⟨c0, c1, c2, c3, c4, c5, c6, c7⟩ := box29 BK2.out
    have HOD := Aside0.mk (show (w2.drew).ownsRow w.heap.size 5 1 (.slice (some ⟨w1.heap.size, 0, none⟩) 6 6) hd.length (nums .u8 hd) from HOW.out)
    have HBD := Aside0.mk (below_drew1 HB2.out)
    have BKD := Aside0.mk (show (w2.drew).heap[w.heap.size]? = _ from BK2.out)
    go_region_held3 (fun w' => w'.cell? ⟨w.heap.size, 1, none⟩ = some (.string name) ∧ w'.cell? ⟨w.heap.size, 6, none⟩ = some (.int .i64 mat))
      (first
        | exact ⟨c1, c6⟩
        | exact ⟨(box29 BK3.out).2.1, (box29 BK3.out).2.2.2.2.2.2.1⟩
        | exact ⟨(box29 BK4.out).2.1, (box29 BK4.out).2.2.2.2.2.2.1⟩)
      (first
        | (refine step_append_str (by rfl) (.tmp 28) (.tmp 30) 33 9 (by rfl) w.heap.size 5 i0 Tryd.underlying33 Tryd.underlying9 hi hz0 hz1 hz2 (.slice (some ⟨w1.heap.size, 0, none⟩) 6 6) hd.length (nums .u8 hd) (by rfl) HOD.out name (by rfl) ?l1 ?l2 HBD.out.size ?_; (case l1 => unfold maxLen; have := HHL.out; omega); (case l2 => have := HHL.out; omega); intro v3 w3 ho hg; have HO3 := Aside0.mk (own_str ho); have HB3 := Aside0.mk (HBD.out.grown hg HBD.out.size (fun k hk => (HOD.out.lt k hk).1)); have OK3 := Aside0.mk ((Lib.OthersKept.refl 5 none w2.drew).grown hg (own_kind HOD.out)); have BK3 := Aside0.mk (kept_blk BKD.out OK3.out (by decide)); clear ho hg)
        | (go_at_call 46; refine (four_own w.heap.size _ _ mat _ HO3.out (by rw [List.length_append, bytesOf_length]; have := HHL.out; omega) HB3.out.size).mono ?_; rintro e w4 ⟨v4, rfl, ho, hb, hk⟩; have HO4 := Aside0.mk ho; have HB4 := Aside0.mk (HB3.out.trans hb); have BK4 := Aside0.mk (kept_blk BK3.out hk (by decide)); clear ho hb hk))
    go_wp2_with fail
    go_meet
    exact ⟨HO4, HB4, BK4⟩
  case rest =>
    obtain ⟨HO4, HB4, BK4⟩ := hcut
    have HL4 := Aside0.mk (show (hd ++ bytesOf name ++ fourL mat).length = 10 + name.size by rw [List.length_append, List.length_append, bytesOf_length, fourL_len, HHL.out]; omega)
    have HPL2 := Aside0.mk (show hd ++ bytesOf name ++ fourL mat ++ fourL body.size ++ bytesOf body = pl from HPL.out)
    generalize hd ++ bytesOf name ++ fourL mat = l4 at *
    go_upto_region 5 with fail
    go_cut [2, 3] from 35 to 42 (fun s2 s3 wx => s3 = .int .i64 0 ∧ Aside0 (wx.ownsRow w.heap.size 5 1 s2 pl.length (nums .u8 pl)) ∧ Aside0 (Below w.heap.size w wx))
    case first =>
      obtain ⟨c0, c1, c2, c3, c4, c5, c6, c7⟩ := box29 BK4.out
      have HOD := Aside0.mk (show (wc.drew).ownsRow w.heap.size 5 1 u4 l4.length (nums .u8 l4) from HO4.out)
      have HBD := Aside0.mk (below_drew1 HB4.out)
      have BKD := Aside0.mk (show (wc.drew).heap[w.heap.size]? = _ from BK4.out)
      go_region_held3 (fun w' => w'.cell? ⟨w.heap.size, 7, none⟩ = some (.string body))
        (first
          | exact c7
          | exact (box29 BK5.out).2.2.2.2.2.2.2
          | exact (box29 BK6.out).2.2.2.2.2.2.2)
        (first
          | (go_at_call 46; refine (four_own w.heap.size _ _ body.size _ HOD.out (by have := HL4.out; omega) HBD.out.size).mono ?_; rintro e w5 ⟨v5, rfl, ho, hb, hk⟩; have HO5 := Aside0.mk ho; have HB5 := Aside0.mk (HBD.out.trans hb); have BK5 := Aside0.mk (kept_blk BKD.out hk (by decide)); clear ho hb hk)
          | (refine step_append_str (by rfl) (.tmp 39) (.tmp 41) 33 9 (by rfl) w.heap.size 5 i0 Tryd.underlying33 Tryd.underlying9 hi hz0 hz1 hz2 v5 (l4 ++ fourL body.size).length (nums .u8 (l4 ++ fourL body.size)) (by rfl) HO5.out body (by rfl) ?l1 ?l2 HB5.out.size ?_; (case l1 => rw [List.length_append, fourL_len]; unfold maxLen; have := HL4.out; omega); (case l2 => rw [List.length_append, fourL_len]; have := HL4.out; omega); intro v6 w6 ho hg; have ho6 := own_str ho; rw [HPL2.out] at ho6; have HO6 := Aside0.mk ho6; have HB6 := Aside0.mk (HB5.out.grown hg HB5.out.size (fun k hk => (HO5.out.lt k hk).1)); have BK6 := Aside0.mk (kept_blk BK5.out ((Lib.OthersKept.refl 5 none w5).grown hg (own_kind HO5.out)) (by decide)); clear ho hg ho6))
      go_wp2_with fail
      go_meet
      exact ⟨rfl, HO6, HB6⟩
    case rest =>
      obtain ⟨rfl, HO6, HB6⟩ := hcut
      go_wp2
      go_ret2
      exact ⟨_, rfl, HO6.out, HB6.out⟩
set_option maxHeartbeats 4000000 in
set_option maxRecDepth 100000 in
theorem put_no (q : AskV) (w : World) (hT : Tabs w) (hn : q.name.size ≤ 140737488351232) (hbd : q.body.size ≤ 140737488351232) (hok : q.ok = false) :
    Calls Tryd.prog 19 #[.agg q.cells] w fun e w' => e = .returned (.tuple #[.slice none 0 0, .int .i64 1]) ∧ Below w.heap.size w w' := by
  have HC := Aside0.mk (fun w1 (h : Below w.heap.size w w1) => check_calls q w1 (tabs_below hT h) hn hbd)
  rw [hok] at HC
  obtain ⟨k, name, f, lang, out, dst, mat, body⟩ := q
  simp only [AskV.cells] at *
  have HB0 := Aside0.mk (below_alloc (Below.refl w.heap.size w) (.cells #[.int .i64 k, .string name, .int .i64 f, .int .i64 lang, .int .i64 out, .int .i64 dst, .int .i64 mat, .string body] 29))
  clear hT hok
  go_enter Tryd.func19, Tryd.ntmps19
  go_wp2_with (go_at_call 30; (with_reducible refine (HC.out _ HB0.out).mono ?_); rintro e w1 ⟨rfl, hb⟩; have HB1 := Aside0.mk (below_step HB0.out hb); clear hb)
  go_ret2
  exact ⟨rfl, HB1.out⟩
structure AnsV where
  e : Int
  i : Int
  r : Int
  body : ByteArray
@[reducible] def AnsV.cells (x : AnsV) : Array Value := #[.int .i64 x.e, .int .i64 x.i, .int .i64 x.r, .string x.body]
def AnsV.ok (x : AnsV) : Bool := inB x.e 0 11 && (inB x.i (-1) 254 && (inB x.r 0 2147483647 && decide (x.body.size ≤ 32768)))
theorem may_B (x : AnsV) : frame_may.f x.e x.i x.r x.body = some x.ok := by
  unfold frame_may.f AnsV.ok
  rw [frame_in_B, frame_in_B, frame_in_B]
  simp only [Option.bind_some]
  cases inB x.e 0 11 <;> cases inB x.i (-1) 254 <;> cases inB x.r 0 2147483647 <;> simp
  omega
theorem may_calls (x : AnsV) (b : Bool) (hb : x.ok = b) (w : World) : Calls Tryd.prog 47 #[.agg x.cells] w fun e w' => e = .returned (.bool b) ∧ Below w.heap.size w w' := by
  subst hb
  exact frame_may.calls x.e x.i x.r x.body _ w (may_B x)
theorem box32 {w : World} {g : Nat} {e i r : Int} {body : ByteArray} (h : w.heap[g]? = some (.cells #[.int .i64 e, .int .i64 i, .int .i64 r, .string body] 32 (0, 0))) :
    w.cell? ⟨g, 0, none⟩ = some (.int .i64 e) ∧ w.cell? ⟨g, 1, none⟩ = some (.int .i64 i) ∧ w.cell? ⟨g, 2, none⟩ = some (.int .i64 r) ∧ w.cell? ⟨g, 3, none⟩ = some (.string body) :=
  ⟨(blk_cell h 0).trans rfl, (blk_cell h 1).trans rfl, (blk_cell h 2).trans rfl, (blk_cell h 3).trans rfl⟩
def AnsV.put (x : AnsV) : List Int := [x.e, x.i + 1] ++ fourL x.r ++ fourL x.body.size ++ bytesOf x.body
set_option maxHeartbeats 4000000 in
set_option maxRecDepth 100000 in
theorem putAns_no (x : AnsV) (w : World) (hok : x.ok = false) :
    Calls Tryd.prog 20 #[.agg x.cells] w fun e w' => e = .returned (.tuple #[.slice none 0 0, .int .i64 1]) ∧ Below w.heap.size w w' := by
  have HC := Aside0.mk (fun w1 => may_calls x false hok w1)
  obtain ⟨e, i, r, body⟩ := x
  simp only [AnsV.cells] at *
  have HB0 := Aside0.mk (below_alloc (Below.refl w.heap.size w) (.cells #[.int .i64 e, .int .i64 i, .int .i64 r, .string body] 32))
  clear hok
  go_enter Tryd.func20, Tryd.ntmps20
  go_wp2_with (go_at_call 47; (with_reducible refine (HC.out _).mono ?_); rintro e w1 ⟨rfl, hb⟩; have HB1 := Aside0.mk (below_step HB0.out hb); clear hb)
  go_ret2
  exact ⟨rfl, HB1.out⟩
set_option maxHeartbeats 4000000 in
set_option maxRecDepth 100000 in
theorem putAns_calls (x : AnsV) (w : World) (hok : x.ok = true) :
    Calls Tryd.prog 20 #[.agg x.cells] w fun e w' => ∃ v, e = .returned (.tuple #[v, .int .i64 0]) ∧ w'.ownsRow w.heap.size 5 1 v x.put.length (nums .u8 x.put) ∧ Below w.heap.size w w' := by
  have HC := Aside0.mk (fun w1 => may_calls x true hok w1)
  obtain ⟨pl, hpl⟩ : ∃ l, x.put = l := ⟨_, rfl⟩
  rw [hpl]
  have HPL := Aside0.mk hpl
  clear hpl
  obtain ⟨e, i, r, body⟩ := x
  simp only [AnsV.cells, AnsV.put] at *
  have hsz : 0 ≤ e ∧ e ≤ 11 ∧ -1 ≤ i ∧ i ≤ 254 ∧ body.size ≤ 32768 := by
    simp only [AnsV.ok, inB, Bool.and_eq_true, decide_eq_true_eq] at hok
    omega
  obtain ⟨he0, he1, hi0, hi1, hsb⟩ := hsz
  have HB0 := Aside0.mk (below_alloc (Below.refl w.heap.size w) (.cells #[.int .i64 e, .int .i64 i, .int .i64 r, .string body] 32))
  have BK0 := Aside0.mk (heap_new w (.cells #[.int .i64 e, .int .i64 i, .int .i64 r, .string body] 32))
  clear hok
  go_enter Tryd.func20, Tryd.ntmps20
  go_upto_region 4 with (first
    | (go_at_call 47; (with_reducible refine (HC.out _).mono ?_); rintro e w1 ⟨rfl, hb⟩; have HB1 := Aside0.mk (below_step HB0.out hb); have BK1 := Aside0.mk (blk_below BK0.out hb); obtain ⟨c0, c1, c2, c3⟩ := box32 BK1.out; have hz1 : w.heap.size < w1.heap.size := blk_lt BK1.out; clear hb)
    | (go_at_call 46; refine (four_own w.heap.size _ [e, i + 1] r _ (own_lit w1 w.heap.size 5 .u8 [e, i + 1] HB1.out.size (by simp)) (by simp) (below_alloc HB1.out _).size).mono ?_; rintro e w2 ⟨v2, rfl, ho, hb, hk⟩; have HO2 := Aside0.mk ho; have HB2 := Aside0.mk ((below_alloc HB1.out (.cells #[.int .u8 e, .int .u8 (i + 1)] 5)).trans hb); have BK2 := Aside0.mk (kept_blk (blk_below BK1.out (below_alloc (Below.refl _ _) (.cells #[.int .u8 e, .int .u8 (i + 1)] 5))) hk (by decide)); clear ho hb hk))
  have HL4 := Aside0.mk (show ([e, i + 1] ++ fourL r).length = 6 from rfl)
  have HPL2 := Aside0.mk (show [e, i + 1] ++ fourL r ++ fourL body.size ++ bytesOf body = pl from HPL.out)
  clear HPL c0 c1 c2 c3 hz1
  generalize [e, i + 1] ++ fourL r = l4 at *
  obtain ⟨i0, hi, hz0, hz1, hz2⟩ := info_parts info5
  go_cut [2, 3] from 19 to 26 (fun s2 s3 wx => s3 = .int .i64 0 ∧ Aside0 (wx.ownsRow w.heap.size 5 1 s2 pl.length (nums .u8 pl)) ∧ Aside0 (Below w.heap.size w wx))
  case first =>
    obtain ⟨c0, c1, c2, c3⟩ := box32 BK2.out
    have HOD := Aside0.mk (show (w2.drew).ownsRow w.heap.size 5 1 v2 l4.length (nums .u8 l4) from HO2.out)
    have HBD := Aside0.mk (below_drew1 HB2.out)
    have BKD := Aside0.mk (show (w2.drew).heap[w.heap.size]? = _ from BK2.out)
    go_region_held3 (fun w' => w'.cell? ⟨w.heap.size, 3, none⟩ = some (.string body))
      (first
        | exact c3
        | exact (box32 BK5.out).2.2.2
        | exact (box32 BK6.out).2.2.2)
      (first
        | (go_at_call 46; refine (four_own w.heap.size _ _ body.size _ HOD.out (by have := HL4.out; omega) HBD.out.size).mono ?_; rintro e w5 ⟨v5, rfl, ho, hb, hk⟩; have HO5 := Aside0.mk ho; have HB5 := Aside0.mk (HBD.out.trans hb); have BK5 := Aside0.mk (kept_blk BKD.out hk (by decide)); clear ho hb hk)
        | (refine step_append_str (by rfl) (.tmp 23) (.tmp 25) 33 9 (by rfl) w.heap.size 5 i0 Tryd.underlying33 Tryd.underlying9 hi hz0 hz1 hz2 v5 (l4 ++ fourL body.size).length (nums .u8 (l4 ++ fourL body.size)) (by rfl) HO5.out body (by rfl) ?l1 ?l2 HB5.out.size ?_; (case l1 => rw [List.length_append, fourL_len]; unfold maxLen; have := HL4.out; omega); (case l2 => rw [List.length_append, fourL_len]; have := HL4.out; omega); intro v6 w6 ho hg; have ho6 := own_str ho; rw [HPL2.out] at ho6; have HO6 := Aside0.mk ho6; have HB6 := Aside0.mk (HB5.out.grown hg HB5.out.size (fun k hk => (HO5.out.lt k hk).1)); have BK6 := Aside0.mk (kept_blk BK5.out ((Lib.OthersKept.refl 5 none w5).grown hg (own_kind HO5.out)) (by decide)); clear ho hg ho6))
    go_wp2_with fail
    go_meet
    exact ⟨rfl, HO6, HB6⟩
  case rest =>
    obtain ⟨rfl, HO6, HB6⟩ := hcut
    go_wp2
    go_ret2
    exact ⟨_, rfl, HO6.out, HB6.out⟩
end Go.Proofs.YtpamgedmgjfjjaaDoor.M
end
section
namespace Go.Proofs.YtpamgedmgjfjjaaDoor.M
open Go.RowKit Go.Proofs.YtpamgedmgjfjjaaDoorW.PrintWords Go.Proofs.YtpamgedmgjfjjaaDoorW.PrintLast Go.Proofs.YtpamgedmgjfjjaaDoorW.PrintMore
set_option linter.unusedVariables false
set_option linter.unusedSimpArgs false
def exQ : AskV := ⟨2, ⟨#[97]⟩, 0, 0, 0, 0, 0, ⟨#[]⟩⟩
theorem exQ_ok : exQ.ok = true := by kernel_rfl
theorem exQ_put : strOfNums exQ.put = ⟨#[2, 0, 0, 0, 0, 1, 97, 0, 0, 0, 0, 0, 0, 0, 0]⟩ := by kernel_rfl
theorem exQ_calls (w : World) (hT : Tabs w) : Calls Tryd.prog 19 #[.agg #[.int .i64 2, .string ⟨#[97]⟩, .int .i64 0, .int .i64 0, .int .i64 0, .int .i64 0, .int .i64 0, .string ⟨#[]⟩]] w fun e w' =>
    ∃ v, e = .returned (.tuple #[v, .int .i64 0]) ∧ (convert 33 9 v).run Tryd.prog w' = .ok (.string ⟨#[2, 0, 0, 0, 0, 1, 97, 0, 0, 0, 0, 0, 0, 0, 0]⟩) w' ∧ Below w.heap.size w w' := by
  refine (put_calls exQ w hT (by decide) (by decide) exQ_ok).mono ?_
  rintro e w' ⟨v, rfl, ho, hb⟩
  refine ⟨v, rfl, ?_, hb⟩
  rw [← exQ_put]
  exact own_string Tryd.underlying33 Tryd.underlying5 Tryd.underlying9 ho
set_option maxHeartbeats 1000000 in
set_option maxRecDepth 100000 in
theorem frame_awake_calls (w : World) (hT : Tabs w) : Calls Tryd.prog 18 #[] w fun e w' => e = .returned (.bool true) ∧ Below w.heap.size w w' := by
  have HC := Aside0.mk (exQ_calls w hT)
  clear hT
  go_enter Tryd.func18, Tryd.ntmps18
  go_wp2_with (go_at_call 19; (with_reducible refine HC.out.mono ?_); rintro e w1 ⟨v, rfl, hcv, hb⟩; have HB := Aside0.mk hb; clear hb)
  go_ret
  exact ⟨rfl, HB.out⟩
end Go.Proofs.YtpamgedmgjfjjaaDoor.M
end
section
namespace Go.Proofs.YtpamgedmgjfjjaaDoor.M
open Go.RowKit Go.Proofs.YtpamgedmgjfjjaaDoorW.PrintWords Go.Proofs.YtpamgedmgjfjjaaDoorW.PrintLast Go.Proofs.YtpamgedmgjfjjaaDoorW.PrintMore
set_option linter.unusedVariables false
set_option linter.unusedSimpArgs false
theorem ba_eq' (a b : ByteArray) (h : a.data.toList = b.data.toList) : a = b := by
  cases a with
  | mk x => cases b with
    | mk y =>
      congr 1
      exact Array.toList_inj.1 h
theorem AskV.put_len (q : AskV) : q.put.length = 14 + q.name.size + q.body.size := by
  simp only [AskV.put, AskV.head, List.length_append, bytesOf_length, fourL_len, List.length_cons, List.length_nil]
  omega
theorem AskV.ok_bounds (q : AskV) (h : q.ok = true) : 1 ≤ q.k ∧ q.k ≤ 6 ∧ 1 ≤ q.name.size ∧ q.name.size ≤ 40 ∧ 0 ≤ q.f ∧ q.f ≤ 3 ∧ 0 ≤ q.out ∧ q.out ≤ 3 ∧ 0 ≤ q.lang ∧ q.lang ≤ 3 ∧ 0 ≤ q.dst ∧ q.dst ≤ 3 ∧ 0 ≤ q.mat ∧ q.mat ≤ 2147483647 ∧ q.body.size ≤ 32768 := by
  simp only [AskV.ok, inB, Bool.and_eq_true, decide_eq_true_eq] at h
  omega
structure PutIs (q : AskV) (w : World) (g cap N : Nat) : Prop where
  len : (N : Int) = 14 + (q.name.size : Int) + (q.body.size : Int)
  le : N ≤ cap
  n15 : 15 ≤ N
  ne : ((N : Int) != 14 + (q.name.size : Int) + (q.body.size : Int)) = false
  c0 : w.cell? ⟨g, 0, none⟩ = some (.int .u8 q.k)
  c1 : w.cell? ⟨g, 1, none⟩ = some (.int .u8 q.f)
  c2 : w.cell? ⟨g, 2, none⟩ = some (.int .u8 q.lang)
  c3 : w.cell? ⟨g, 3, none⟩ = some (.int .u8 q.out)
  c4 : w.cell? ⟨g, 4, none⟩ = some (.int .u8 q.dst)
  c5 : w.cell? ⟨g, 5, none⟩ = some (.int .u8 q.name.size)
  all : (Kd.int .u8).C w (some ⟨g, 0, none⟩) q.put.length q.put
theorem rd_lit (a b : List Int) (i : Nat) (h : i < a.length) : rd (a ++ b) (i : Int) = a.getD i 0 := by
  unfold rd
  rw [Int.toNat_natCast]
  simp [List.getD_eq_getElem?_getD, List.getElem?_append_left h]
theorem putted (q : AskV) (w w' : World) (v : Value) (hok : q.ok = true) (hown : w'.ownsRow w.heap.size 5 1 v q.put.length (nums .u8 q.put)) :
    ∃ g cap N, v = .slice (some ⟨g, 0, none⟩) N cap ∧ PutIs q w' g cap N ∧ w.heap.size ≤ g ∧ N = q.put.length := by
  have hl := q.put_len
  have hb := q.ok_bounds hok
  obtain ⟨A, c, hv, hR⟩ := own_reads hown
  have hC : (Kd.int .u8).C w' A q.put.length q.put := Kd.C_of_reads (d := 0) (h1 := fun _ => rfl) hR
  have hcap : ∃ g cap, v = .slice (some ⟨g, 0, none⟩) q.put.length cap ∧ q.put.length ≤ cap ∧ w.heap.size ≤ g := by
    rcases hown.2 with ⟨_, h0⟩ | ⟨g, cap, cur, hv, hbg, _, hnc, _⟩
    · omega
    · exact ⟨g, cap, hv, hnc, hbg⟩
  obtain ⟨g, cap, hv2, hle, hbg⟩ := hcap
  rw [hv] at hv2
  injection hv2 with e1 e2 e3
  subst e1
  have at_ : ∀ i : Nat, i < 6 → w'.cell? ⟨g, i, none⟩ = some (.int .u8 (q.head.getD i 0)) := by
    intro i hi
    obtain ⟨ad, ea, hc⟩ := Kd.at_int hC (i : Int) (by omega) (by omega)
    cases ea
    rw [Int.toNat_natCast, add_plain] at hc
    rw [hc]
    have : q.put = q.head ++ (bytesOf q.name ++ fourL q.mat ++ fourL q.body.size ++ bytesOf q.body) := by simp [AskV.put]
    rw [this, rd_lit _ _ i (by simp [AskV.head]; omega)]
  refine ⟨g, cap, q.put.length, by rw [hv, e3], ⟨by omega, hle, by omega, bne_eq_false_iff_eq.2 (by omega), ?_, ?_, ?_, ?_, ?_, ?_, hC⟩, hbg, rfl⟩
  · rw [at_ 0 (by decide)]; simp only [AskV.head, List.getD_cons_zero]; rw [Int.emod_eq_of_lt (by omega) (by omega)]
  · rw [at_ 1 (by decide)]; simp only [AskV.head, List.getD_cons_zero, List.getD_cons_succ]; rw [Int.emod_eq_of_lt (by omega) (by omega)]
  · rw [at_ 2 (by decide)]; simp only [AskV.head, List.getD_cons_zero, List.getD_cons_succ]; rw [Int.emod_eq_of_lt (by omega) (by omega)]
  · rw [at_ 3 (by decide)]; simp only [AskV.head, List.getD_cons_zero, List.getD_cons_succ]; rw [Int.emod_eq_of_lt (by omega) (by omega)]
  · rw [at_ 4 (by decide)]; simp only [AskV.head, List.getD_cons_zero, List.getD_cons_succ]; rw [Int.emod_eq_of_lt (by omega) (by omega)]
  · rw [at_ 5 (by decide)]; rfl
theorem heap_new1 (w : World) (o o' : Obj) : ((w.alloc o).alloc o').heap[w.heap.size + 1]? = some o' := by
  have h := heap_new (w.alloc o) o'
  rwa [show (w.alloc o).heap.size = w.heap.size + 1 from Array.size_push ..] at h
theorem str_bytesOf (s : ByteArray) : strOfNums (bytesOf s) = s := by
  apply ba_eq'
  rw [strOfNums_data, bytesOf, List.map_map]
  have : ((fun n : Int => UInt8.ofNat n.toNat) ∘ fun b : UInt8 => (b.toNat : Int)) = id := by
    funext b
    simp
  rw [this, List.map_id]
theorem size33 : (Tryd.prog.info? 5).map (·.size) = some 1 := by kernel_rfl
theorem AnsV.put_len (x : AnsV) : x.put.length = 10 + x.body.size := by
  simp only [AnsV.put, List.length_append, bytesOf_length, fourL_len, List.length_cons, List.length_nil]
theorem AnsV.ok_bounds (x : AnsV) (h : x.ok = true) : 0 ≤ x.e ∧ x.e ≤ 11 ∧ -1 ≤ x.i ∧ x.i ≤ 254 ∧ 0 ≤ x.r ∧ x.r ≤ 2147483647 ∧ x.body.size ≤ 32768 := by
  simp only [AnsV.ok, inB, Bool.and_eq_true, decide_eq_true_eq] at h
  omega
structure AnsIs (x : AnsV) (w : World) (g cap N : Nat) : Prop where
  len : (N : Int) = 10 + (x.body.size : Int)
  le : N ≤ cap
  n10 : 10 ≤ N
  ne : ((N : Int) != 10 + (x.body.size : Int)) = false
  c0 : w.cell? ⟨g, 0, none⟩ = some (.int .u8 x.e)
  c1 : w.cell? ⟨g, 1, none⟩ = some (.int .u8 (x.i + 1))
  all : (Kd.int .u8).C w (some ⟨g, 0, none⟩) x.put.length x.put
theorem puttedA (x : AnsV) (w w' : World) (v : Value) (hown : w'.ownsRow w.heap.size 5 1 v x.put.length (nums .u8 x.put)) :
    ∃ g cap N, v = .slice (some ⟨g, 0, none⟩) N cap ∧ AnsIs x w' g cap N ∧ w.heap.size ≤ g ∧ N = x.put.length := by
  have hl := x.put_len
  obtain ⟨A, c, hv, hR⟩ := own_reads hown
  have hC : (Kd.int .u8).C w' A x.put.length x.put := Kd.C_of_reads (d := 0) (h1 := fun _ => rfl) hR
  have hcap : ∃ g cap, v = .slice (some ⟨g, 0, none⟩) x.put.length cap ∧ x.put.length ≤ cap ∧ w.heap.size ≤ g := by
    rcases hown.2 with ⟨_, h0⟩ | ⟨g, cap, cur, hv, hbg, _, hnc, _⟩
    · omega
    · exact ⟨g, cap, hv, hnc, hbg⟩
  obtain ⟨g, cap, hv2, hle, hbg⟩ := hcap
  rw [hv] at hv2
  injection hv2 with e1 e2 e3
  subst e1
  have at_ : ∀ i : Nat, i < 2 → w'.cell? ⟨g, i, none⟩ = some (.int .u8 (([x.e, x.i + 1] : List Int).getD i 0)) := by
    intro i hi
    obtain ⟨ad, ea, hc⟩ := Kd.at_int hC (i : Int) (by omega) (by omega)
    cases ea
    rw [Int.toNat_natCast, add_plain] at hc
    rw [hc]
    have : x.put = [x.e, x.i + 1] ++ (fourL x.r ++ fourL x.body.size ++ bytesOf x.body) := by simp [AnsV.put]
    rw [this, rd_lit _ _ i (by simp; omega)]
  refine ⟨g, cap, x.put.length, by rw [hv, e3], ⟨by omega, hle, by omega, bne_eq_false_iff_eq.2 (by omega), ?_, ?_, hC⟩, hbg, rfl⟩
  · rw [at_ 0 (by decide)]; rfl
  · rw [at_ 1 (by decide)]; rfl
end Go.Proofs.YtpamgedmgjfjjaaDoor.M
end
