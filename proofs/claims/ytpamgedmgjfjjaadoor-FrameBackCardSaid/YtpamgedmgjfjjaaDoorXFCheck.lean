/-
What frame.Check comes to.
-/
import Derived.Test.YtpamgedmgjfjjaaDoorXEnc
import Derived.Test.YtpamgedmgjfjjaaDoorXParts
import Derived.Test.YtpamgedmgjfjjaaDoorM3
namespace Go.Proofs.YtpamgedmgjfjjaaDoor.M
open Go.RowKit Go.Proofs.YtpamgedmgjfjjaaDoorW.PrintWords Go.Proofs.YtpamgedmgjfjjaaDoorW.PrintLast Go.Proofs.YtpamgedmgjfjjaaDoorW.PrintMore
set_option linter.unusedVariables false
set_option linter.unusedSimpArgs false

/-- A request. -/
structure AskV where
  k : Int
  name : ByteArray
  f : Int
  lang : Int
  out : Int
  dst : Int
  mat : Int
  body : ByteArray
@[reducible] def AskV.cells (q : AskV) : Array Value := #[.int .i64 q.k, .string q.name, .int .i64 q.f, .int .i64 q.lang, .int .i64 q.out, .int .i64 q.dst, .int .i64 q.mat, .string q.body]
def inB (v lo hi : Int) : Bool := decide (lo ≤ v) && decide (v ≤ hi)
theorem frame_in_B (v lo hi : Int) : frame_in.f v lo hi = some (inB v lo hi) := by
  unfold frame_in.f inB
  by_cases h : v ≥ lo
  · rw [if_pos h, decide_eq_true (show lo ≤ v from h), Bool.true_and]
  · rw [if_neg h, decide_eq_false (show ¬ lo ≤ v from h), Bool.false_and]
theorem in_calls (v lo hi : Int) (b : Bool) (hb : inB v lo hi = b) (w : World) : Calls Tryd.prog 53 #[.int .i64 v, .int .i64 lo, .int .i64 hi] w fun e w' => e = .returned (.bool b) ∧ Drawn0 w w' := by
  subst hb
  exact frame_in.calls v lo hi _ w (frame_in_B v lo hi)
/-- A request's own variable, read. -/
theorem box29 {w : World} {g : Nat} {k f lang out dst mat : Int} {name body : ByteArray}
    (h : w.heap[g]? = some (.cells #[.int .i64 k, .string name, .int .i64 f, .int .i64 lang, .int .i64 out, .int .i64 dst, .int .i64 mat, .string body] 29 (0, 0))) :
    w.cell? ⟨g, 0, none⟩ = some (.int .i64 k) ∧ w.cell? ⟨g, 1, none⟩ = some (.string name) ∧ w.cell? ⟨g, 2, none⟩ = some (.int .i64 f) ∧ w.cell? ⟨g, 3, none⟩ = some (.int .i64 lang) ∧
    w.cell? ⟨g, 4, none⟩ = some (.int .i64 out) ∧ w.cell? ⟨g, 5, none⟩ = some (.int .i64 dst) ∧ w.cell? ⟨g, 6, none⟩ = some (.int .i64 mat) ∧ w.cell? ⟨g, 7, none⟩ = some (.string body) :=
  ⟨(blk_cell h 0).trans rfl, (blk_cell h 1).trans rfl, (blk_cell h 2).trans rfl, (blk_cell h 3).trans rfl, (blk_cell h 4).trans rfl, (blk_cell h 5).trans rfl, (blk_cell h 6).trans rfl, (blk_cell h 7).trans rfl⟩
theorem heap_new (w : World) (o : Obj) : (w.alloc o).heap[w.heap.size]? = some o := by
  show (w.heap.push _)[w.heap.size]? = _
  exact Array.getElem?_push_size
theorem blk_below {w w1 : World} {g : Nat} {o : Obj} (h : w.heap[g]? = some o) (hb : Below w.heap.size w w1) : w1.heap[g]? = some o := (hb.block g (blk_lt h)).trans h
/-- May a request be? -/
def AskV.ok (q : AskV) : Bool :=
  inB q.k 1 6 && (inB q.name.size 1 40 && (validU q.name q.name.size 0 && (inB q.f 0 3 && (inB q.out 0 3 && (inB q.lang 0 3 && (inB q.dst 0 3 && (inB q.mat 0 2147483647 && decide (q.body.size ≤ 32768))))))))
set_option maxHeartbeats 4000000 in
set_option maxRecDepth 100000 in
theorem check_calls (q : AskV) (w : World) (hT : Tabs w) (hn : q.name.size ≤ 140737488351232) (hbd : q.body.size ≤ 140737488351232) :
    Calls Tryd.prog 30 #[.agg q.cells] w fun e w' => e = .returned (.bool q.ok) ∧ Below w.heap.size w w' := by
  obtain ⟨k, name, f, lang, out, dst, mat, body⟩ := q
  simp only [AskV.cells, AskV.ok] at *
  have HB0 := Aside0.mk (below_alloc (Below.refl w.heap.size w) (.cells #[.int .i64 k, .string name, .int .i64 f, .int .i64 lang, .int .i64 out, .int .i64 dst, .int .i64 mat, .string body] 29))
  obtain ⟨b1, e1⟩ : ∃ b, inB k 1 6 = b := ⟨_, rfl⟩
  obtain ⟨b2, e2⟩ : ∃ b, inB name.size 1 40 = b := ⟨_, rfl⟩
  obtain ⟨b3, e3⟩ : ∃ b, validU name name.size 0 = b := ⟨_, rfl⟩
  obtain ⟨b4, e4⟩ : ∃ b, inB f 0 3 = b := ⟨_, rfl⟩
  obtain ⟨b5, e5⟩ : ∃ b, inB out 0 3 = b := ⟨_, rfl⟩
  obtain ⟨b6, e6⟩ : ∃ b, inB lang 0 3 = b := ⟨_, rfl⟩
  obtain ⟨b7, e7⟩ : ∃ b, inB dst 0 3 = b := ⟨_, rfl⟩
  obtain ⟨b8, e8⟩ : ∃ b, inB mat 0 2147483647 = b := ⟨_, rfl⟩
  rw [e1, e2, e3, e4, e5, e6, e7, e8]
  have H1 := Aside0.mk (in_calls k 1 6 b1 e1)
  have H2 := Aside0.mk (in_calls name.size 1 40 b2 e2)
  have H3 := Aside0.mk (fun w1 (h : Below w.heap.size w w1) => valid_c name b3 e3 w1 (tabs_below hT h))
  have H4 := Aside0.mk (in_calls f 0 3 b4 e4)
  have H5 := Aside0.mk (in_calls out 0 3 b5 e5)
  have H6 := Aside0.mk (in_calls lang 0 3 b6 e6)
  have H7 := Aside0.mk (in_calls dst 0 3 b7 e7)
  have H8 := Aside0.mk (in_calls mat 0 2147483647 b8 e8)
  clear hT e1 e2 e3 e4 e5 e6 e7 e8
  have BK0 := Aside0.mk (heap_new w (.cells #[.int .i64 k, .string name, .int .i64 f, .int .i64 lang, .int .i64 out, .int .i64 dst, .int .i64 mat, .string body] 29))
  cases b1
  · go_enter Tryd.func30, Tryd.ntmps30
    go_wp2_with (first
      | (go_at_call 53; (with_reducible refine (H1.out _).mono ?_); rintro e w1 ⟨rfl, hd⟩; have HB1 := Aside0.mk (below_step HB0.out hd.below); have BK1 := Aside0.mk (blk_below BK0.out hd.below); obtain ⟨c10, c11, c12, c13, c14, c15, c16, c17⟩ := box29 BK1.out; clear hd))
    go_ret
    exact ⟨rfl, HB1.out⟩
  cases b2
  · go_enter Tryd.func30, Tryd.ntmps30
    go_wp2_with (first
      | (go_at_call 53; (with_reducible refine (H1.out _).mono ?_); rintro e w1 ⟨rfl, hd⟩; have HB1 := Aside0.mk (below_step HB0.out hd.below); have BK1 := Aside0.mk (blk_below BK0.out hd.below); obtain ⟨c10, c11, c12, c13, c14, c15, c16, c17⟩ := box29 BK1.out; clear hd)
      | (go_at_call 53; (with_reducible refine (H2.out _).mono ?_); rintro e w2 ⟨rfl, hd⟩; have HB2 := Aside0.mk (below_step HB1.out hd.below); have BK2 := Aside0.mk (blk_below BK1.out hd.below); obtain ⟨c20, c21, c22, c23, c24, c25, c26, c27⟩ := box29 BK2.out; clear hd c10 c11 c12 c13 c14 c15 c16 c17))
    go_ret
    exact ⟨rfl, HB2.out⟩
  cases b3
  · go_enter Tryd.func30, Tryd.ntmps30
    go_wp2_with (first
      | (go_at_call 53; (with_reducible refine (H1.out _).mono ?_); rintro e w1 ⟨rfl, hd⟩; have HB1 := Aside0.mk (below_step HB0.out hd.below); have BK1 := Aside0.mk (blk_below BK0.out hd.below); obtain ⟨c10, c11, c12, c13, c14, c15, c16, c17⟩ := box29 BK1.out; clear hd)
      | (go_at_call 53; (with_reducible refine (H2.out _).mono ?_); rintro e w2 ⟨rfl, hd⟩; have HB2 := Aside0.mk (below_step HB1.out hd.below); have BK2 := Aside0.mk (blk_below BK1.out hd.below); obtain ⟨c20, c21, c22, c23, c24, c25, c26, c27⟩ := box29 BK2.out; clear hd c10 c11 c12 c13 c14 c15 c16 c17)
      | (go_at_call 14; (with_reducible refine (H3.out _ HB2.out).mono ?_); rintro e w3 ⟨rfl, hd⟩; have HB3 := Aside0.mk (below_step HB2.out hd); have BK3 := Aside0.mk (blk_below BK2.out hd); obtain ⟨c30, c31, c32, c33, c34, c35, c36, c37⟩ := box29 BK3.out; clear hd c20 c21 c22 c23 c24 c25 c26 c27))
    go_ret
    exact ⟨rfl, HB3.out⟩
  cases b4
  · go_enter Tryd.func30, Tryd.ntmps30
    go_wp2_with (first
      | (go_at_call 53; (with_reducible refine (H1.out _).mono ?_); rintro e w1 ⟨rfl, hd⟩; have HB1 := Aside0.mk (below_step HB0.out hd.below); have BK1 := Aside0.mk (blk_below BK0.out hd.below); obtain ⟨c10, c11, c12, c13, c14, c15, c16, c17⟩ := box29 BK1.out; clear hd)
      | (go_at_call 53; (with_reducible refine (H2.out _).mono ?_); rintro e w2 ⟨rfl, hd⟩; have HB2 := Aside0.mk (below_step HB1.out hd.below); have BK2 := Aside0.mk (blk_below BK1.out hd.below); obtain ⟨c20, c21, c22, c23, c24, c25, c26, c27⟩ := box29 BK2.out; clear hd c10 c11 c12 c13 c14 c15 c16 c17)
      | (go_at_call 14; (with_reducible refine (H3.out _ HB2.out).mono ?_); rintro e w3 ⟨rfl, hd⟩; have HB3 := Aside0.mk (below_step HB2.out hd); have BK3 := Aside0.mk (blk_below BK2.out hd); obtain ⟨c30, c31, c32, c33, c34, c35, c36, c37⟩ := box29 BK3.out; clear hd c20 c21 c22 c23 c24 c25 c26 c27)
      | (go_at_call 53; (with_reducible refine (H4.out _).mono ?_); rintro e w4 ⟨rfl, hd⟩; have HB4 := Aside0.mk (below_step HB3.out hd.below); have BK4 := Aside0.mk (blk_below BK3.out hd.below); obtain ⟨c40, c41, c42, c43, c44, c45, c46, c47⟩ := box29 BK4.out; clear hd c30 c31 c32 c33 c34 c35 c36 c37))
    go_ret
    exact ⟨rfl, HB4.out⟩
  cases b5
  · go_enter Tryd.func30, Tryd.ntmps30
    go_wp2_with (first
      | (go_at_call 53; (with_reducible refine (H1.out _).mono ?_); rintro e w1 ⟨rfl, hd⟩; have HB1 := Aside0.mk (below_step HB0.out hd.below); have BK1 := Aside0.mk (blk_below BK0.out hd.below); obtain ⟨c10, c11, c12, c13, c14, c15, c16, c17⟩ := box29 BK1.out; clear hd)
      | (go_at_call 53; (with_reducible refine (H2.out _).mono ?_); rintro e w2 ⟨rfl, hd⟩; have HB2 := Aside0.mk (below_step HB1.out hd.below); have BK2 := Aside0.mk (blk_below BK1.out hd.below); obtain ⟨c20, c21, c22, c23, c24, c25, c26, c27⟩ := box29 BK2.out; clear hd c10 c11 c12 c13 c14 c15 c16 c17)
      | (go_at_call 14; (with_reducible refine (H3.out _ HB2.out).mono ?_); rintro e w3 ⟨rfl, hd⟩; have HB3 := Aside0.mk (below_step HB2.out hd); have BK3 := Aside0.mk (blk_below BK2.out hd); obtain ⟨c30, c31, c32, c33, c34, c35, c36, c37⟩ := box29 BK3.out; clear hd c20 c21 c22 c23 c24 c25 c26 c27)
      | (go_at_call 53; (with_reducible refine (H4.out _).mono ?_); rintro e w4 ⟨rfl, hd⟩; have HB4 := Aside0.mk (below_step HB3.out hd.below); have BK4 := Aside0.mk (blk_below BK3.out hd.below); obtain ⟨c40, c41, c42, c43, c44, c45, c46, c47⟩ := box29 BK4.out; clear hd c30 c31 c32 c33 c34 c35 c36 c37)
      | (go_at_call 53; (with_reducible refine (H5.out _).mono ?_); rintro e w5 ⟨rfl, hd⟩; have HB5 := Aside0.mk (below_step HB4.out hd.below); have BK5 := Aside0.mk (blk_below BK4.out hd.below); obtain ⟨c50, c51, c52, c53, c54, c55, c56, c57⟩ := box29 BK5.out; clear hd c40 c41 c42 c43 c44 c45 c46 c47))
    go_ret
    exact ⟨rfl, HB5.out⟩
  cases b6
  · go_enter Tryd.func30, Tryd.ntmps30
    go_wp2_with (first
      | (go_at_call 53; (with_reducible refine (H1.out _).mono ?_); rintro e w1 ⟨rfl, hd⟩; have HB1 := Aside0.mk (below_step HB0.out hd.below); have BK1 := Aside0.mk (blk_below BK0.out hd.below); obtain ⟨c10, c11, c12, c13, c14, c15, c16, c17⟩ := box29 BK1.out; clear hd)
      | (go_at_call 53; (with_reducible refine (H2.out _).mono ?_); rintro e w2 ⟨rfl, hd⟩; have HB2 := Aside0.mk (below_step HB1.out hd.below); have BK2 := Aside0.mk (blk_below BK1.out hd.below); obtain ⟨c20, c21, c22, c23, c24, c25, c26, c27⟩ := box29 BK2.out; clear hd c10 c11 c12 c13 c14 c15 c16 c17)
      | (go_at_call 14; (with_reducible refine (H3.out _ HB2.out).mono ?_); rintro e w3 ⟨rfl, hd⟩; have HB3 := Aside0.mk (below_step HB2.out hd); have BK3 := Aside0.mk (blk_below BK2.out hd); obtain ⟨c30, c31, c32, c33, c34, c35, c36, c37⟩ := box29 BK3.out; clear hd c20 c21 c22 c23 c24 c25 c26 c27)
      | (go_at_call 53; (with_reducible refine (H4.out _).mono ?_); rintro e w4 ⟨rfl, hd⟩; have HB4 := Aside0.mk (below_step HB3.out hd.below); have BK4 := Aside0.mk (blk_below BK3.out hd.below); obtain ⟨c40, c41, c42, c43, c44, c45, c46, c47⟩ := box29 BK4.out; clear hd c30 c31 c32 c33 c34 c35 c36 c37)
      | (go_at_call 53; (with_reducible refine (H5.out _).mono ?_); rintro e w5 ⟨rfl, hd⟩; have HB5 := Aside0.mk (below_step HB4.out hd.below); have BK5 := Aside0.mk (blk_below BK4.out hd.below); obtain ⟨c50, c51, c52, c53, c54, c55, c56, c57⟩ := box29 BK5.out; clear hd c40 c41 c42 c43 c44 c45 c46 c47)
      | (go_at_call 53; (with_reducible refine (H6.out _).mono ?_); rintro e w6 ⟨rfl, hd⟩; have HB6 := Aside0.mk (below_step HB5.out hd.below); have BK6 := Aside0.mk (blk_below BK5.out hd.below); obtain ⟨c60, c61, c62, c63, c64, c65, c66, c67⟩ := box29 BK6.out; clear hd c50 c51 c52 c53 c54 c55 c56 c57))
    go_ret
    exact ⟨rfl, HB6.out⟩
  cases b7
  · go_enter Tryd.func30, Tryd.ntmps30
    go_wp2_with (first
      | (go_at_call 53; (with_reducible refine (H1.out _).mono ?_); rintro e w1 ⟨rfl, hd⟩; have HB1 := Aside0.mk (below_step HB0.out hd.below); have BK1 := Aside0.mk (blk_below BK0.out hd.below); obtain ⟨c10, c11, c12, c13, c14, c15, c16, c17⟩ := box29 BK1.out; clear hd)
      | (go_at_call 53; (with_reducible refine (H2.out _).mono ?_); rintro e w2 ⟨rfl, hd⟩; have HB2 := Aside0.mk (below_step HB1.out hd.below); have BK2 := Aside0.mk (blk_below BK1.out hd.below); obtain ⟨c20, c21, c22, c23, c24, c25, c26, c27⟩ := box29 BK2.out; clear hd c10 c11 c12 c13 c14 c15 c16 c17)
      | (go_at_call 14; (with_reducible refine (H3.out _ HB2.out).mono ?_); rintro e w3 ⟨rfl, hd⟩; have HB3 := Aside0.mk (below_step HB2.out hd); have BK3 := Aside0.mk (blk_below BK2.out hd); obtain ⟨c30, c31, c32, c33, c34, c35, c36, c37⟩ := box29 BK3.out; clear hd c20 c21 c22 c23 c24 c25 c26 c27)
      | (go_at_call 53; (with_reducible refine (H4.out _).mono ?_); rintro e w4 ⟨rfl, hd⟩; have HB4 := Aside0.mk (below_step HB3.out hd.below); have BK4 := Aside0.mk (blk_below BK3.out hd.below); obtain ⟨c40, c41, c42, c43, c44, c45, c46, c47⟩ := box29 BK4.out; clear hd c30 c31 c32 c33 c34 c35 c36 c37)
      | (go_at_call 53; (with_reducible refine (H5.out _).mono ?_); rintro e w5 ⟨rfl, hd⟩; have HB5 := Aside0.mk (below_step HB4.out hd.below); have BK5 := Aside0.mk (blk_below BK4.out hd.below); obtain ⟨c50, c51, c52, c53, c54, c55, c56, c57⟩ := box29 BK5.out; clear hd c40 c41 c42 c43 c44 c45 c46 c47)
      | (go_at_call 53; (with_reducible refine (H6.out _).mono ?_); rintro e w6 ⟨rfl, hd⟩; have HB6 := Aside0.mk (below_step HB5.out hd.below); have BK6 := Aside0.mk (blk_below BK5.out hd.below); obtain ⟨c60, c61, c62, c63, c64, c65, c66, c67⟩ := box29 BK6.out; clear hd c50 c51 c52 c53 c54 c55 c56 c57)
      | (go_at_call 53; (with_reducible refine (H7.out _).mono ?_); rintro e w7 ⟨rfl, hd⟩; have HB7 := Aside0.mk (below_step HB6.out hd.below); have BK7 := Aside0.mk (blk_below BK6.out hd.below); obtain ⟨c70, c71, c72, c73, c74, c75, c76, c77⟩ := box29 BK7.out; clear hd c60 c61 c62 c63 c64 c65 c66 c67))
    go_ret
    exact ⟨rfl, HB7.out⟩
  cases b8
  · go_enter Tryd.func30, Tryd.ntmps30
    go_wp2_with (first
      | (go_at_call 53; (with_reducible refine (H1.out _).mono ?_); rintro e w1 ⟨rfl, hd⟩; have HB1 := Aside0.mk (below_step HB0.out hd.below); have BK1 := Aside0.mk (blk_below BK0.out hd.below); obtain ⟨c10, c11, c12, c13, c14, c15, c16, c17⟩ := box29 BK1.out; clear hd)
      | (go_at_call 53; (with_reducible refine (H2.out _).mono ?_); rintro e w2 ⟨rfl, hd⟩; have HB2 := Aside0.mk (below_step HB1.out hd.below); have BK2 := Aside0.mk (blk_below BK1.out hd.below); obtain ⟨c20, c21, c22, c23, c24, c25, c26, c27⟩ := box29 BK2.out; clear hd c10 c11 c12 c13 c14 c15 c16 c17)
      | (go_at_call 14; (with_reducible refine (H3.out _ HB2.out).mono ?_); rintro e w3 ⟨rfl, hd⟩; have HB3 := Aside0.mk (below_step HB2.out hd); have BK3 := Aside0.mk (blk_below BK2.out hd); obtain ⟨c30, c31, c32, c33, c34, c35, c36, c37⟩ := box29 BK3.out; clear hd c20 c21 c22 c23 c24 c25 c26 c27)
      | (go_at_call 53; (with_reducible refine (H4.out _).mono ?_); rintro e w4 ⟨rfl, hd⟩; have HB4 := Aside0.mk (below_step HB3.out hd.below); have BK4 := Aside0.mk (blk_below BK3.out hd.below); obtain ⟨c40, c41, c42, c43, c44, c45, c46, c47⟩ := box29 BK4.out; clear hd c30 c31 c32 c33 c34 c35 c36 c37)
      | (go_at_call 53; (with_reducible refine (H5.out _).mono ?_); rintro e w5 ⟨rfl, hd⟩; have HB5 := Aside0.mk (below_step HB4.out hd.below); have BK5 := Aside0.mk (blk_below BK4.out hd.below); obtain ⟨c50, c51, c52, c53, c54, c55, c56, c57⟩ := box29 BK5.out; clear hd c40 c41 c42 c43 c44 c45 c46 c47)
      | (go_at_call 53; (with_reducible refine (H6.out _).mono ?_); rintro e w6 ⟨rfl, hd⟩; have HB6 := Aside0.mk (below_step HB5.out hd.below); have BK6 := Aside0.mk (blk_below BK5.out hd.below); obtain ⟨c60, c61, c62, c63, c64, c65, c66, c67⟩ := box29 BK6.out; clear hd c50 c51 c52 c53 c54 c55 c56 c57)
      | (go_at_call 53; (with_reducible refine (H7.out _).mono ?_); rintro e w7 ⟨rfl, hd⟩; have HB7 := Aside0.mk (below_step HB6.out hd.below); have BK7 := Aside0.mk (blk_below BK6.out hd.below); obtain ⟨c70, c71, c72, c73, c74, c75, c76, c77⟩ := box29 BK7.out; clear hd c60 c61 c62 c63 c64 c65 c66 c67)
      | (go_at_call 53; (with_reducible refine (H8.out _).mono ?_); rintro e w8 ⟨rfl, hd⟩; have HB8 := Aside0.mk (below_step HB7.out hd.below); have BK8 := Aside0.mk (blk_below BK7.out hd.below); obtain ⟨c80, c81, c82, c83, c84, c85, c86, c87⟩ := box29 BK8.out; clear hd c70 c71 c72 c73 c74 c75 c76 c77))
    go_ret
    exact ⟨rfl, HB8.out⟩
  by_cases hb9 : body.size ≤ 32768
  · have d9 : decide (body.size ≤ 32768) = true := decide_eq_true hb9
    have e9 : decide ((body.size : Int) ≤ 32768) = true := decide_eq_true (by omega)
    rw [d9]
    go_enter Tryd.func30, Tryd.ntmps30
    go_wp2_with (first
      | (go_at_call 53; (with_reducible refine (H1.out _).mono ?_); rintro e w1 ⟨rfl, hd⟩; have HB1 := Aside0.mk (below_step HB0.out hd.below); have BK1 := Aside0.mk (blk_below BK0.out hd.below); obtain ⟨c10, c11, c12, c13, c14, c15, c16, c17⟩ := box29 BK1.out; clear hd)
      | (go_at_call 53; (with_reducible refine (H2.out _).mono ?_); rintro e w2 ⟨rfl, hd⟩; have HB2 := Aside0.mk (below_step HB1.out hd.below); have BK2 := Aside0.mk (blk_below BK1.out hd.below); obtain ⟨c20, c21, c22, c23, c24, c25, c26, c27⟩ := box29 BK2.out; clear hd c10 c11 c12 c13 c14 c15 c16 c17)
      | (go_at_call 14; (with_reducible refine (H3.out _ HB2.out).mono ?_); rintro e w3 ⟨rfl, hd⟩; have HB3 := Aside0.mk (below_step HB2.out hd); have BK3 := Aside0.mk (blk_below BK2.out hd); obtain ⟨c30, c31, c32, c33, c34, c35, c36, c37⟩ := box29 BK3.out; clear hd c20 c21 c22 c23 c24 c25 c26 c27)
      | (go_at_call 53; (with_reducible refine (H4.out _).mono ?_); rintro e w4 ⟨rfl, hd⟩; have HB4 := Aside0.mk (below_step HB3.out hd.below); have BK4 := Aside0.mk (blk_below BK3.out hd.below); obtain ⟨c40, c41, c42, c43, c44, c45, c46, c47⟩ := box29 BK4.out; clear hd c30 c31 c32 c33 c34 c35 c36 c37)
      | (go_at_call 53; (with_reducible refine (H5.out _).mono ?_); rintro e w5 ⟨rfl, hd⟩; have HB5 := Aside0.mk (below_step HB4.out hd.below); have BK5 := Aside0.mk (blk_below BK4.out hd.below); obtain ⟨c50, c51, c52, c53, c54, c55, c56, c57⟩ := box29 BK5.out; clear hd c40 c41 c42 c43 c44 c45 c46 c47)
      | (go_at_call 53; (with_reducible refine (H6.out _).mono ?_); rintro e w6 ⟨rfl, hd⟩; have HB6 := Aside0.mk (below_step HB5.out hd.below); have BK6 := Aside0.mk (blk_below BK5.out hd.below); obtain ⟨c60, c61, c62, c63, c64, c65, c66, c67⟩ := box29 BK6.out; clear hd c50 c51 c52 c53 c54 c55 c56 c57)
      | (go_at_call 53; (with_reducible refine (H7.out _).mono ?_); rintro e w7 ⟨rfl, hd⟩; have HB7 := Aside0.mk (below_step HB6.out hd.below); have BK7 := Aside0.mk (blk_below BK6.out hd.below); obtain ⟨c70, c71, c72, c73, c74, c75, c76, c77⟩ := box29 BK7.out; clear hd c60 c61 c62 c63 c64 c65 c66 c67)
      | (go_at_call 53; (with_reducible refine (H8.out _).mono ?_); rintro e w8 ⟨rfl, hd⟩; have HB8 := Aside0.mk (below_step HB7.out hd.below); have BK8 := Aside0.mk (blk_below BK7.out hd.below); obtain ⟨c80, c81, c82, c83, c84, c85, c86, c87⟩ := box29 BK8.out; clear hd c70 c71 c72 c73 c74 c75 c76 c77))
    go_ret
    exact ⟨rfl, HB8.out⟩
  · have d9 : decide (body.size ≤ 32768) = false := decide_eq_false hb9
    have e9 : decide ((body.size : Int) ≤ 32768) = false := decide_eq_false (by omega)
    rw [d9]
    go_enter Tryd.func30, Tryd.ntmps30
    go_wp2_with (first
      | (go_at_call 53; (with_reducible refine (H1.out _).mono ?_); rintro e w1 ⟨rfl, hd⟩; have HB1 := Aside0.mk (below_step HB0.out hd.below); have BK1 := Aside0.mk (blk_below BK0.out hd.below); obtain ⟨c10, c11, c12, c13, c14, c15, c16, c17⟩ := box29 BK1.out; clear hd)
      | (go_at_call 53; (with_reducible refine (H2.out _).mono ?_); rintro e w2 ⟨rfl, hd⟩; have HB2 := Aside0.mk (below_step HB1.out hd.below); have BK2 := Aside0.mk (blk_below BK1.out hd.below); obtain ⟨c20, c21, c22, c23, c24, c25, c26, c27⟩ := box29 BK2.out; clear hd c10 c11 c12 c13 c14 c15 c16 c17)
      | (go_at_call 14; (with_reducible refine (H3.out _ HB2.out).mono ?_); rintro e w3 ⟨rfl, hd⟩; have HB3 := Aside0.mk (below_step HB2.out hd); have BK3 := Aside0.mk (blk_below BK2.out hd); obtain ⟨c30, c31, c32, c33, c34, c35, c36, c37⟩ := box29 BK3.out; clear hd c20 c21 c22 c23 c24 c25 c26 c27)
      | (go_at_call 53; (with_reducible refine (H4.out _).mono ?_); rintro e w4 ⟨rfl, hd⟩; have HB4 := Aside0.mk (below_step HB3.out hd.below); have BK4 := Aside0.mk (blk_below BK3.out hd.below); obtain ⟨c40, c41, c42, c43, c44, c45, c46, c47⟩ := box29 BK4.out; clear hd c30 c31 c32 c33 c34 c35 c36 c37)
      | (go_at_call 53; (with_reducible refine (H5.out _).mono ?_); rintro e w5 ⟨rfl, hd⟩; have HB5 := Aside0.mk (below_step HB4.out hd.below); have BK5 := Aside0.mk (blk_below BK4.out hd.below); obtain ⟨c50, c51, c52, c53, c54, c55, c56, c57⟩ := box29 BK5.out; clear hd c40 c41 c42 c43 c44 c45 c46 c47)
      | (go_at_call 53; (with_reducible refine (H6.out _).mono ?_); rintro e w6 ⟨rfl, hd⟩; have HB6 := Aside0.mk (below_step HB5.out hd.below); have BK6 := Aside0.mk (blk_below BK5.out hd.below); obtain ⟨c60, c61, c62, c63, c64, c65, c66, c67⟩ := box29 BK6.out; clear hd c50 c51 c52 c53 c54 c55 c56 c57)
      | (go_at_call 53; (with_reducible refine (H7.out _).mono ?_); rintro e w7 ⟨rfl, hd⟩; have HB7 := Aside0.mk (below_step HB6.out hd.below); have BK7 := Aside0.mk (blk_below BK6.out hd.below); obtain ⟨c70, c71, c72, c73, c74, c75, c76, c77⟩ := box29 BK7.out; clear hd c60 c61 c62 c63 c64 c65 c66 c67)
      | (go_at_call 53; (with_reducible refine (H8.out _).mono ?_); rintro e w8 ⟨rfl, hd⟩; have HB8 := Aside0.mk (below_step HB7.out hd.below); have BK8 := Aside0.mk (blk_below BK7.out hd.below); obtain ⟨c80, c81, c82, c83, c84, c85, c86, c87⟩ := box29 BK8.out; clear hd c70 c71 c72 c73 c74 c75 c76 c77))
    go_ret
    exact ⟨rfl, HB8.out⟩
end Go.Proofs.YtpamgedmgjfjjaaDoor.M
