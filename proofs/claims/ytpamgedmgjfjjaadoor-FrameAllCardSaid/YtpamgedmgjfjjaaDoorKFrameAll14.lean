/-
Lemmas for FrameAll, for every input they speak of: XRGet, XRAns.
-/
import Derived.Test.YtpamgedmgjfjjaaDoorKFrameAll13
section
namespace Go.Proofs.YtpamgedmgjfjjaaDoor.M
open Go.RowKit Go.Proofs.YtpamgedmgjfjjaaDoorW.PrintWords Go.Proofs.YtpamgedmgjfjjaaDoorW.PrintLast Go.Proofs.YtpamgedmgjfjjaaDoorW.PrintMore
set_option linter.unusedVariables false
set_option linter.unusedSimpArgs false
def finG (q : AskV) : Option (List Int) → Int × AskV
  | .none => (2, AskV.none)
  | some l => get8 q l
def refGet (b : List Int) : Int × AskV :=
  let s1 := rN 1 (some b)
  let s2 := rN 1 s1.2
  let s3 := rN 1 s2.2
  let s4 := rN 1 s3.2
  let s5 := rN 1 s4.2
  let s6 := rN 1 s5.2
  let t := rT s6.1 s6.2
  let m := rN 4 t.2
  let bl := rN 4 m.2
  let bd := rT bl.1 bl.2
  finG ⟨s1.1, t.1, s2.1, s3.1, s4.1, s5.1, m.1, bd.1⟩ bd.2
theorem rN1_cons (x : Int) (l : List Int) : rN 1 (some (x :: l)) = (x, some l) := by simp [rN, numL]
theorem rN_none (n : Nat) : rN n .none = (0, .none) := rfl
theorem rT_none (n : Int) : rT n .none = (.empty, .none) := rfl
theorem rN1_nil : rN 1 (some []) = (0, .none) := rfl
theorem rTN (n : Nat) (l : List Int) (hb : Bytes l) : rT (rN n (some l)).1 (rN n (some l)).2 = match textL n l with | .none => (.empty, .none) | some (s, l') => (s, some l') := by
  unfold textL
  by_cases h : n ≤ l.length
  · rw [show rN n (some l) = (numL (l.take n), some (l.drop n)) from if_pos h]
    by_cases h2 : numL (l.take n) ≤ (l.drop n).length
    · rw [if_pos ⟨h, h2⟩]; exact if_pos h2
    · rw [if_neg (fun h3 => h2 h3.2)]; exact if_neg h2
  · rw [show rN n (some l) = (0, .none) from if_neg h, if_neg (fun h3 => h h3.1)]
    rfl
theorem refGet_eq (b : List Int) (hb : Bytes b) : refGet b = getL b := by
  match b, hb with
  | [], _ => rfl
  | [x], _ => simp only [refGet, rN1_cons, rN1_nil, rN_none, rT_none]; rfl
  | [x, x1], _ => simp only [refGet, rN1_cons, rN1_nil, rN_none, rT_none]; rfl
  | [x, x1, x2], _ => simp only [refGet, rN1_cons, rN1_nil, rN_none, rT_none]; rfl
  | [x, x1, x2, x3], _ => simp only [refGet, rN1_cons, rN1_nil, rN_none, rT_none]; rfl
  | x0 :: x1 :: x2 :: x3 :: x4 :: l5, hb =>
    have hb5 : Bytes l5 := fun x hx => hb x (by simp [hx])
    show _ = get5 x0 x1 x2 x3 x4 l5
    simp only [refGet, rN1_cons]
    rw [rTN 1 l5 hb5]
    unfold get5
    rcases ht : textL 1 l5 with _ | ⟨name, l6⟩
    · simp only [rN_none, rT_none]; rfl
    · simp only
      have hb6 := (textL_facts ht hb5).2.2
      unfold get6
      by_cases h4 : l6.length < 4
      · rw [if_pos h4, show rN 4 (some l6) = (0, .none) from if_neg (by omega)]
        simp only [rN_none, rT_none]; rfl
      · rw [if_neg h4, show rN 4 (some l6) = (numL (l6.take 4), some (l6.drop 4)) from if_pos (by omega)]
        simp only
        rw [rTN 4 (l6.drop 4) (fun x hx => hb6 x (List.mem_of_mem_drop hx))]
        unfold get7
        rcases ht2 : textL 4 (l6.drop 4) with _ | ⟨body, l8⟩
        · rfl
        · rfl
theorem rN_bound {w0 W : World} {g : Nat} {s : ByteArray} {st : Option (List Int)} (h : RSt w0 W g s st) (n : Nat) (hn : n ≤ 4) : 0 ≤ (rN n st).1 ∧ (rN n st).1 ≤ 4294967296 := by
  cases st with
  | none => exact ⟨Int.le_refl 0, by show (0 : Int) ≤ 4294967296; decide⟩
  | some l =>
    obtain ⟨k, hk, rfl, _⟩ := h
    by_cases hc : n ≤ ((bytesOf s).drop k).length
    · rw [show rN n (some ((bytesOf s).drop k)) = (numL (((bytesOf s).drop k).take n), _) from if_pos hc]
      have hb := numL_bound (((bytesOf s).drop k).take n) (bytes_take (fun x hx => bytes_bytesOf s x (List.mem_of_mem_drop hx)) n)
      have hp : (256 : Int) ^ (((bytesOf s).drop k).take n).length ≤ 4294967296 := by
        rw [List.length_take, Nat.min_eq_left hc]
        match n, hn with
        | 0, _ => decide
        | 1, _ => decide
        | 2, _ => decide
        | 3, _ => decide
        | 4, _ => decide
      exact ⟨hb.1, by have := hb.2; simp only; omega⟩
    · rw [show rN n (some ((bytesOf s).drop k)) = (0, .none) from if_neg hc]
      exact ⟨by decide, by decide⟩
structure RW (w0 W : World) (g : Nat) (s : ByteArray) (st : Option (List Int)) : Prop where
  rd : RSt w0 W g s st
  low : Below w0.heap.size w0 W
theorem RW.num {w0 W : World} {g : Nat} {s : ByteArray} {st : Option (List Int)} (h : RW w0 W g s st) (n : Nat) (hs : s.size ≤ 1000000) (h1 : n ≤ 4) {v : Int} {st' : Option (List Int)} (e : rN n st = (v, st')) :
    Calls Tryd.prog 61 #[.pointer (some ⟨g, 0, none⟩), .int .i64 n] W fun e w' => e = .returned (.int .i64 v) ∧ RW w0 w' g s st' ∧ KeepBut W w' g none := by
  have := rN_calls w0 W g s st n hs h1 h.rd h.low
  rw [e] at this
  exact this.mono fun e w' ⟨h1, h2, h3, h4⟩ => ⟨h1, ⟨h2, h3⟩, h4⟩
theorem RW.txt {w0 W : World} {g : Nat} {s : ByteArray} {st : Option (List Int)} (h : RW w0 W g s st) (n : Int) (hs : s.size ≤ 1000000) (h0 : 0 ≤ n) (h1 : n ≤ 4294967296) {v : ByteArray} {st' : Option (List Int)} (e : rT n st = (v, st')) :
    Calls Tryd.prog 62 #[.pointer (some ⟨g, 0, none⟩), .int .i64 n] W fun e w' => e = .returned (.string v) ∧ RW w0 w' g s st' ∧ KeepBut W w' g none := by
  have := rT_calls w0 W g s st n hs h0 h1 h.rd h.low
  rw [e] at this
  exact this.mono fun e w' ⟨h1, h2, h3, h4⟩ => ⟨h1, ⟨h2, h3⟩, h4⟩
theorem RW.blk {w0 W W' : World} {g a : Nat} {o : Obj} (hk : KeepBut W W' g none) (hb : W.heap[a]? = some o) (hne : a ≠ g) : W'.heap[a]? = some o := hk.blk hb hne (by simp)
theorem RW.alloc {w0 W : World} {g : Nat} {s : ByteArray} {st : Option (List Int)} (h : RW w0 W g s st) (o : Obj) : RW w0 (W.alloc o) g s st := by
  refine ⟨?_, below_alloc h.low o⟩
  cases st with
  | none => obtain ⟨k, hI⟩ := h.rd; exact ⟨k, hI.alloc o⟩
  | some l => obtain ⟨k, h1, h2, hI⟩ := h.rd; exact ⟨k, h1, h2, hI.alloc o⟩
theorem RW.far {w0 W : World} {g a : Nat} {s : ByteArray} {st : Option (List Int)} (h : RW w0 W g s st) (hne : g ≠ a) (ha : w0.heap.size ≤ a) (i : Nat) (v : Value) : RW w0 (W.setCell ⟨a, i, none⟩ v) g s st := by
  refine ⟨?_, h.low.setCell (p := ⟨a, i, none⟩) ha v⟩
  cases st with
  | none => obtain ⟨k, hI⟩ := h.rd; exact ⟨k, hI.far (p := ⟨a, i, none⟩) hne v⟩
  | some l => obtain ⟨k, h1, h2, hI⟩ := h.rd; exact ⟨k, h1, h2, hI.far (p := ⟨a, i, none⟩) hne v⟩
theorem RW.new (w : World) (s : ByteArray) (o : Obj) : RW w ((w.alloc o).alloc (.cells #[.string s, .int .i64 0, .bool false] 93)) (w.alloc o).heap.size s (some (bytesOf s)) := by
  have hb := below_alloc (Below.refl w.heap.size w) o
  exact ⟨⟨0, Nat.zero_le _, by simp, IsS93.new w (w.alloc o) s 0 false hb⟩, below_alloc hb _⟩
set_option maxRecDepth 100000 in
theorem res34 (w : World) (g : Nat) (t0 t1 t4 t5 t6 t7 t8 t9 t10 t11 t12 t13 t14 t15 t16 t17 t18 t19 t20 t21 t22 t23 t24 t25 t26 t27 t28 t29 t30 t31 t32 t33 t34 t35 t36 t37 t38 t39 t40 t41 t42 t43 t44 t45 t46 t47 t48 t49 t50 t51 t52 t53 : Value) (k : Int) (name : ByteArray) (f lang out dst mat : Int) (body : ByteArray) (e : Int)
    (h : w.heap[g]? = some (.cells #[.int .i64 k, .string name, .int .i64 f, .int .i64 lang, .int .i64 out, .int .i64 dst, .int .i64 mat, .string body] 29 (0, 0))) :
    (results Tryd.f34 #[t0, t1, .pointer (some ⟨g, 0, none⟩), .int .i64 e, t4, t5, t6, t7, t8, t9, t10, t11, t12, t13, t14, t15, t16, t17, t18, t19, t20, t21, t22, t23, t24, t25, t26, t27, t28, t29, t30, t31, t32, t33, t34, t35, t36, t37, t38, t39, t40, t41, t42, t43, t44, t45, t46, t47, t48, t49, t50, t51, t52, t53]).run Tryd.prog w = .ok (.tuple #[.agg #[.int .i64 k, .string name, .int .i64 f, .int .i64 lang, .int .i64 out, .int .i64 dst, .int .i64 mat, .string body], .int .i64 e]) w := by
  obtain ⟨c0, c1, c2, c3, c4, c5, c6, c7⟩ := box29 h
  simp [results, Tryd.results34, go_sem, c0, c1, c2, c3, c4, c5, c6, c7]
theorem RW.size {w0 W : World} {g : Nat} {s : ByteArray} {st : Option (List Int)} (h : RW w0 W g s st) (n : Int) : (rT n st).1.size ≤ s.size := by
  cases st with
  | none => exact Nat.zero_le _
  | some l =>
    obtain ⟨k, hk, rfl, _⟩ := h.rd
    by_cases hc : n ≤ ((bytesOf s).drop k).length
    · rw [show rT n (some ((bytesOf s).drop k)) = (strOfNums (((bytesOf s).drop k).take n.toNat), _) from if_pos hc]
      show (strOfNums _).size ≤ _
      rw [strOfNums_size, List.length_take, List.length_drop, bytesOf_length]
      omega
    · rw [show rT n (some ((bytesOf s).drop k)) = (.empty, .none) from if_neg hc]
      exact Nat.zero_le _
theorem RW.lt {w0 W : World} {g : Nat} {s : ByteArray} {st : Option (List Int)} (h : RW w0 W g s st) : g < W.heap.size := by
  cases st with
  | none => obtain ⟨k, hI⟩ := h.rd; exact hI.lt
  | some l => obtain ⟨k, h1, h2, hI⟩ := h.rd; exact hI.lt
set_option maxHeartbeats 8000000 in
set_option maxRecDepth 100000 in
theorem refGet_walk (s : ByteArray) (w : World) (hs : s.size ≤ 1000000) : Calls Tryd.prog 34 #[.string s] w fun e w' => e = .returned (.tuple #[.agg (refGet (bytesOf s)).2.cells, .int .i64 (refGet (bytesOf s)).1]) ∧ Below w.heap.size w w' := by
  obtain ⟨R, hR⟩ : ∃ R, refGet (bytesOf s) = R := ⟨_, rfl⟩
  rw [hR]
  unfold refGet at hR
  obtain ⟨v1, st1, e1⟩ : ∃ v st, rN 1 (some (bytesOf s)) = (v, st) := ⟨_, _, rfl⟩
  obtain ⟨v2, st2, e2⟩ : ∃ v st, rN 1 st1 = (v, st) := ⟨_, _, rfl⟩
  obtain ⟨v3, st3, e3⟩ : ∃ v st, rN 1 st2 = (v, st) := ⟨_, _, rfl⟩
  obtain ⟨v4, st4, e4⟩ : ∃ v st, rN 1 st3 = (v, st) := ⟨_, _, rfl⟩
  obtain ⟨v5, st5, e5⟩ : ∃ v st, rN 1 st4 = (v, st) := ⟨_, _, rfl⟩
  obtain ⟨v6, st6, e6⟩ : ∃ v st, rN 1 st5 = (v, st) := ⟨_, _, rfl⟩
  obtain ⟨t7, st7, e7⟩ : ∃ v st, rT v6 st6 = (v, st) := ⟨_, _, rfl⟩
  obtain ⟨v8, st8, e8⟩ : ∃ v st, rN 4 st7 = (v, st) := ⟨_, _, rfl⟩
  obtain ⟨v9, st9, e9⟩ : ∃ v st, rN 4 st8 = (v, st) := ⟨_, _, rfl⟩
  obtain ⟨ta, sta, ea⟩ : ∃ v st, rT v9 st9 = (v, st) := ⟨_, _, rfl⟩
  simp only [e1, e2, e3, e4, e5, e6, e7, e8, e9, ea] at hR
  have H1 := Aside0.mk (fun W g (h : RW w W g s _) => h.num 1 hs (by decide) e1)
  have H2 := Aside0.mk (fun W g (h : RW w W g s _) => h.num 1 hs (by decide) e2)
  have H3 := Aside0.mk (fun W g (h : RW w W g s _) => h.num 1 hs (by decide) e3)
  have H4 := Aside0.mk (fun W g (h : RW w W g s _) => h.num 1 hs (by decide) e4)
  have H5 := Aside0.mk (fun W g (h : RW w W g s _) => h.num 1 hs (by decide) e5)
  have H6 := Aside0.mk (fun W g (h : RW w W g s _) => h.num 1 hs (by decide) e6)
  have H7 := Aside0.mk (fun W g (h : RW w W g s _) b1 b2 => h.txt v6 hs b1 b2 e7)
  have H8 := Aside0.mk (fun W g (h : RW w W g s _) => h.num 4 hs (by decide) e8)
  have H9 := Aside0.mk (fun W g (h : RW w W g s _) => h.num 4 hs (by decide) e9)
  have Ha := Aside0.mk (fun W g (h : RW w W g s _) b1 b2 => h.txt v9 hs b1 b2 ea)
  have B6 := Aside0.mk (fun W g (h : RW w W g s st5) => show 0 ≤ v6 ∧ v6 ≤ 4294967296 by have := rN_bound h.rd 1 (by decide); rw [e6] at this; exact this)
  have B7 := Aside0.mk (fun W g (h : RW w W g s st6) => show t7.size ≤ s.size by have := h.size v6; rw [e7] at this; exact this)
  have B9 := Aside0.mk (fun W g (h : RW w W g s st8) => show 0 ≤ v9 ∧ v9 ≤ 4294967296 by have := rN_bound h.rd 4 (by decide); rw [e9] at this; exact this)
  have HR := Aside0.mk hR
  have HS := Aside0.mk hs
  have HZ := Aside0.mk (RW.new w s (.cells AskV.none.cells 29))
  have hsz : (w.alloc (.cells AskV.none.cells 29)).heap.size = w.heap.size + 1 := Array.size_push ..
  rw [hsz] at HZ
  have HZR := Aside0.mk (blk_alloc (blk_new w (.cells AskV.none.cells 29)) (.cells #[.string s, .int .i64 0, .bool false] 93))
  clear hR e1 e2 e3 e4 e5 e6 e7 e8 e9 ea hs hsz
  go_enter Tryd.func34, Tryd.ntmps34
  go_wp2_with fail
  refine (H1.out _ _ HZ.out).mono ?_
  rintro e w1 ⟨rfl, HR1, hk1⟩
  have hz1 := RW.blk (w0 := w) hk1 HZR.out (by omega)
  clear H1 HZ HZR hk1
  go_wp2_with fail
  refine (H2.out _ _ HR1).mono ?_
  rintro e w2 ⟨rfl, HR2, hk⟩
  have hz2 := RW.blk (w0 := w) hk hz1 (by omega)
  clear H2 HR1 hz1 hk
  go_wp2_with fail
  refine (H3.out _ _ HR2).mono ?_
  rintro e w3 ⟨rfl, HR3, hk⟩
  have hz3 := RW.blk (w0 := w) hk hz2 (by omega)
  clear H3 HR2 hz2 hk
  go_wp2_with fail
  refine (H4.out _ _ HR3).mono ?_
  rintro e w4 ⟨rfl, HR4, hk⟩
  have hz4 := RW.blk (w0 := w) hk hz3 (by omega)
  clear H4 HR3 hz3 hk
  go_wp2_with fail
  refine (H5.out _ _ HR4).mono ?_
  rintro e w5 ⟨rfl, HR5, hk⟩
  have hz5 := RW.blk (w0 := w) hk hz4 (by omega)
  clear H5 HR4 hz4 hk
  have HQ5 := HR5.alloc (.cells #[.int .i64 v1, .string .empty, .int .i64 v2, .int .i64 v3, .int .i64 v4, .int .i64 v5, .int .i64 0, .string .empty] 29)
  have hna : w5.heap.size ≠ w.heap.size + 1 := by have := HR5.lt; omega
  have hwa : w.heap.size ≤ w5.heap.size := HR5.low.size
  have hza : w.heap.size ≠ w5.heap.size := by have := blk_lt hz5; omega
  have ha5 := blk_new w5 (.cells #[.int .i64 v1, .string .empty, .int .i64 v2, .int .i64 v3, .int .i64 v4, .int .i64 v5, .int .i64 0, .string .empty] 29)
  have hz5' := blk_alloc hz5 (.cells #[.int .i64 v1, .string .empty, .int .i64 v2, .int .i64 v3, .int .i64 v4, .int .i64 v5, .int .i64 0, .string .empty] 29)
  obtain ⟨b61, b62⟩ := B6.out _ _ HQ5
  have HNA := Aside0.mk (And.intro hna (And.intro hwa hza))
  have HB6 := Aside0.mk (And.intro b61 b62)
  clear hna hwa hza b61 b62 hz5 HR5
  go_wp2_with fail
  refine (H6.out _ _ HQ5).mono ?_
  rintro e w6 ⟨rfl, HR6, hk⟩
  have hz6 := RW.blk (w0 := w) hk hz5' (by omega)
  have ha6 := RW.blk (w0 := w) hk ha5 HNA.out.1
  clear H6 HQ5 hz5' ha5 hk
  go_wp2_with fail
  have HN7 := Aside0.mk (show t7.size ≤ 1000000 from Nat.le_trans (B7.out _ _ HR6) HS.out)
  refine (H7.out _ _ HR6 HB6.out.1 HB6.out.2).mono ?_
  rintro e w7 ⟨rfl, HR7, hk⟩
  have hz7 := RW.blk (w0 := w) hk hz6 (by omega)
  have ha7 := RW.blk (w0 := w) hk ha6 HNA.out.1
  obtain ⟨c0, c1, c2, c3, c4, c5, c6, c7⟩ := box29 ha7
  have f1 := blk_frozen ha7 1
  have HR7' := Aside0.mk (HR7.far HNA.out.1.symm HNA.out.2.1 1 (.string t7))
  have hz7' := Aside0.mk (blk_far (p := ⟨w5.heap.size, 1, none⟩) hz7 HNA.out.2.2 (.string t7))
  have ha7' := Aside0.mk (show (w7.setCell ⟨w5.heap.size, 1, none⟩ (.string t7)).heap[w5.heap.size]? = some (.cells #[.int .i64 v1, .string t7, .int .i64 v2, .int .i64 v3, .int .i64 v4, .int .i64 v5, .int .i64 0, .string .empty] 29 (0, 0)) from blk_set ha7 1 (.string t7))
  clear H7 HR6 hz6 ha6 hk HR7 hz7 ha7
  go_wp2_with fail
  clear c0 c1 c2 c3 c4 c5 c6 c7 f1
  generalize w7.setCell ⟨w5.heap.size, 1, none⟩ (.string t7) = w7 at HR7' hz7' ha7' ⊢
  refine (H8.out _ _ HR7'.out).mono ?_
  rintro e w8 ⟨rfl, HR8, hk⟩
  have hz8 := RW.blk (w0 := w) hk hz7'.out (by omega)
  have ha8 := RW.blk (w0 := w) hk ha7'.out HNA.out.1
  obtain ⟨c0, c1, c2, c3, c4, c5, c6, c7⟩ := box29 ha8
  have f1 := blk_frozen ha8 6
  have HR8' := Aside0.mk (HR8.far HNA.out.1.symm HNA.out.2.1 6 (.int .i64 v8))
  have hz8' := Aside0.mk (blk_far (p := ⟨w5.heap.size, 6, none⟩) hz8 HNA.out.2.2 (.int .i64 v8))
  have ha8' := Aside0.mk (show (w8.setCell ⟨w5.heap.size, 6, none⟩ (.int .i64 v8)).heap[w5.heap.size]? = some (.cells #[.int .i64 v1, .string t7, .int .i64 v2, .int .i64 v3, .int .i64 v4, .int .i64 v5, .int .i64 v8, .string .empty] 29 (0, 0)) from blk_set ha8 6 (.int .i64 v8))
  have HB9 := Aside0.mk (B9.out _ _ HR8'.out)
  clear H8 HR7' hz7' ha7' hk HR8 hz8 ha8
  go_wp2_with fail
  clear c0 c1 c2 c3 c4 c5 c6 c7 f1
  generalize w8.setCell ⟨w5.heap.size, 6, none⟩ (.int .i64 v8) = w8 at HR8' hz8' ha8' ⊢
  refine (H9.out _ _ HR8'.out).mono ?_
  rintro e w9 ⟨rfl, HR9, hk⟩
  have hz9 := RW.blk (w0 := w) hk hz8'.out (by omega)
  have ha9 := RW.blk (w0 := w) hk ha8'.out HNA.out.1
  clear H9 HR8' hz8' ha8' hk
  go_wp2_with fail
  refine (Ha.out _ _ HR9 HB9.out.1 HB9.out.2).mono ?_
  rintro e wa ⟨rfl, HRa, hk⟩
  have hza := RW.blk (w0 := w) hk hz9 (by omega)
  have haa := RW.blk (w0 := w) hk ha9 HNA.out.1
  obtain ⟨c0, c1, c2, c3, c4, c5, c6, c7⟩ := box29 haa
  have f1 := blk_frozen haa 7
  have HRa' := Aside0.mk (HRa.far HNA.out.1.symm HNA.out.2.1 7 (.string ta))
  have hza' := blk_far (p := ⟨w5.heap.size, 7, none⟩) hza HNA.out.2.2 (.string ta)
  have haa' := (show (wa.setCell ⟨w5.heap.size, 7, none⟩ (.string ta)).heap[w5.heap.size]? = some (.cells #[.int .i64 v1, .string t7, .int .i64 v2, .int .i64 v3, .int .i64 v4, .int .i64 v5, .int .i64 v8, .string ta] 29 (0, 0)) from blk_set haa 7 (.string ta))
  have HZZ := Aside0.mk hza'
  have HAA := Aside0.mk haa'
  clear Ha HR9 hz9 ha9 hk HRa hza haa hza' haa'
  go_upto_region 6 with fail
  clear c0 c1 c2 c3 c4 c5 c6 c7 f1
  generalize wa.setCell ⟨w5.heap.size, 7, none⟩ (.string ta) = wb at HRa' HZZ HAA ⊢
  have HLOW := Aside0.mk HRa'.out.low
  obtain ⟨d0, d1, d2, d3, d4, d5, d6, d7⟩ := box29 (show wb.heap[w.heap.size]? = some (.cells #[.int .i64 0, .string .empty, .int .i64 0, .int .i64 0, .int .i64 0, .int .i64 0, .int .i64 0, .string .empty] 29 (0, 0)) from HZZ.out)
  obtain ⟨f0, f1, f2, f3, f4, f5, f6, f7⟩ := box29f HZZ.out
  cases sta with
  | none =>
    obtain ⟨k, hI⟩ := HRa'.out.rd
    have g2 := cellS93_2 hI.1
    have hr := HR.out
    subst hr
    clear HRa' hI HAA
    go_wp2
    have bE := blk_set (blk_set (blk_set (blk_set (blk_set (blk_set (blk_set (blk_set HZZ.out 0 (.int .i64 0)) 1 (.string .empty)) 2 (.int .i64 0)) 3 (.int .i64 0)) 4 (.int .i64 0)) 5 (.int .i64 0)) 6 (.int .i64 0)) 7 (.string .empty)
    refine bodyPost_ret (res34 _ w.heap.size _ _ _ _ _ _ _ _ _ _ _ _ _ _ _ _ _ _ _ _ _ _ _ _ _ _ _ _ _ _ _ _ _ _ _ _ _ _ _ _ _ _ _ _ _ _ _ _ _ _ _ _ 0 .empty 0 0 0 0 0 .empty 2 bE) rfl ⟨rfl, ?_⟩
    have hg : w.heap.size ≤ w.heap.size := Nat.le_refl _
    have HL := HLOW.out
    exact (((((((HL.setCell (p := ⟨_, 0, none⟩) hg _).setCell (p := ⟨_, 1, none⟩) hg _).setCell (p := ⟨_, 2, none⟩) hg _).setCell (p := ⟨_, 3, none⟩) hg _).setCell (p := ⟨_, 4, none⟩) hg _).setCell (p := ⟨_, 5, none⟩) hg _).setCell (p := ⟨_, 6, none⟩) hg _).setCell (p := ⟨_, 7, none⟩) hg _
  | some l =>
    obtain ⟨k, hk, hl, hI⟩ := HRa'.out.rd
    have g1 := cellS93_1 hI.1
    have g2 := cellS93_2 hI.1
    by_cases hks : k < s.size
    · have n1 : decide ((k : Int) < (s.size : Int)) = true := decide_eq_true (by omega)
      have hr := HR.out
      have hne : l ≠ [] := by
        intro h0
        rw [hl, List.drop_eq_nil_iff, bytesOf_length] at h0
        omega
      rw [show finG _ (some l) = (2, AskV.none) from if_pos hne] at hr
      subst hr
      have n2 : decide (k < s.size) = true := decide_eq_true hks
      clear HRa' hI HAA hl hne hk
      go_wp2
      have bE := blk_set (blk_set (blk_set (blk_set (blk_set (blk_set (blk_set (blk_set HZZ.out 0 (.int .i64 0)) 1 (.string .empty)) 2 (.int .i64 0)) 3 (.int .i64 0)) 4 (.int .i64 0)) 5 (.int .i64 0)) 6 (.int .i64 0)) 7 (.string .empty)
      refine bodyPost_ret (res34 _ w.heap.size _ _ _ _ _ _ _ _ _ _ _ _ _ _ _ _ _ _ _ _ _ _ _ _ _ _ _ _ _ _ _ _ _ _ _ _ _ _ _ _ _ _ _ _ _ _ _ _ _ _ _ _ 0 .empty 0 0 0 0 0 .empty 2 bE) rfl ⟨rfl, ?_⟩
      have hg : w.heap.size ≤ w.heap.size := Nat.le_refl _
      have HL := HLOW.out
      exact (((((((HL.setCell (p := ⟨_, 0, none⟩) hg _).setCell (p := ⟨_, 1, none⟩) hg _).setCell (p := ⟨_, 2, none⟩) hg _).setCell (p := ⟨_, 3, none⟩) hg _).setCell (p := ⟨_, 4, none⟩) hg _).setCell (p := ⟨_, 5, none⟩) hg _).setCell (p := ⟨_, 6, none⟩) hg _).setCell (p := ⟨_, 7, none⟩) hg _
    · have n1 : decide ((k : Int) < (s.size : Int)) = false := decide_eq_false (by omega)
      have hne : l = [] := by rw [hl, List.drop_eq_nil_iff, bytesOf_length]; omega
      subst hne
      have hr := HR.out
      have n2 : decide (k < s.size) = false := decide_eq_false hks
      obtain ⟨a0, a1, a2, a3, a4, a5, a6, a7⟩ := box29 HAA.out
      have HCk := Aside0.mk (refCheck_calls ⟨v1, t7, v2, v3, v4, v5, v8, ta⟩ HN7.out wb)
      simp only [AskV.cells] at HCk
      have hr' : (if (AskV.mk v1 t7 v2 v3 v4 v5 v8 ta).ok then (0, AskV.mk v1 t7 v2 v3 v4 v5 v8 ta) else (1, AskV.none)) = R := hr
      clear HRa' hI hl hk HR hr
      cases hok : (AskV.mk v1 t7 v2 v3 v4 v5 v8 ta).ok
      · rw [hok] at hr' HCk
        simp only [Bool.false_eq_true, if_false] at hr'
        subst hr'
        go_wp2_with fail
        refine HCk.out.mono ?_
        rintro e wc ⟨rfl, hb⟩
        have HLOW' := Aside0.mk (below_then HLOW.out HLOW.out.size hb)
        have HZZ' := Aside0.mk (blk_below HZZ.out hb)
        clear HLOW HZZ HCk HAA hb a0 a1 a2 a3 a4 a5 a6 a7 d0 d1 d2 d3 d4 d5 d6 d7 f0 f1 f2 f3 f4 f5 f6 f7
        have HLOW := HLOW'
        have HZZ := HZZ'
        obtain ⟨d0, d1, d2, d3, d4, d5, d6, d7⟩ := box29 (show wc.heap[w.heap.size]? = some (.cells #[.int .i64 0, .string .empty, .int .i64 0, .int .i64 0, .int .i64 0, .int .i64 0, .int .i64 0, .string .empty] 29 (0, 0)) from HZZ.out)
        obtain ⟨f0, f1, f2, f3, f4, f5, f6, f7⟩ := box29f HZZ.out
        go_wp2
        have bE := blk_set (blk_set (blk_set (blk_set (blk_set (blk_set (blk_set (blk_set HZZ.out 0 (.int .i64 0)) 1 (.string .empty)) 2 (.int .i64 0)) 3 (.int .i64 0)) 4 (.int .i64 0)) 5 (.int .i64 0)) 6 (.int .i64 0)) 7 (.string .empty)
        refine bodyPost_ret (res34 _ w.heap.size _ _ _ _ _ _ _ _ _ _ _ _ _ _ _ _ _ _ _ _ _ _ _ _ _ _ _ _ _ _ _ _ _ _ _ _ _ _ _ _ _ _ _ _ _ _ _ _ _ _ _ _ 0 .empty 0 0 0 0 0 .empty 1 bE) rfl ⟨rfl, ?_⟩
        have hg : w.heap.size ≤ w.heap.size := Nat.le_refl _
        have HL := HLOW.out
        exact (((((((HL.setCell (p := ⟨_, 0, none⟩) hg _).setCell (p := ⟨_, 1, none⟩) hg _).setCell (p := ⟨_, 2, none⟩) hg _).setCell (p := ⟨_, 3, none⟩) hg _).setCell (p := ⟨_, 4, none⟩) hg _).setCell (p := ⟨_, 5, none⟩) hg _).setCell (p := ⟨_, 6, none⟩) hg _).setCell (p := ⟨_, 7, none⟩) hg _
      · rw [hok] at hr' HCk
        simp only [if_true] at hr'
        subst hr'
        go_wp2_with fail
        refine HCk.out.mono ?_
        rintro e wc ⟨rfl, hb⟩
        have HLOW' := Aside0.mk (below_then HLOW.out HLOW.out.size hb)
        have HZZ' := Aside0.mk (blk_below HZZ.out hb)
        have HAA' := Aside0.mk (blk_below HAA.out hb)
        clear HLOW HZZ HCk HAA hb a0 a1 a2 a3 a4 a5 a6 a7 d0 d1 d2 d3 d4 d5 d6 d7 f0 f1 f2 f3 f4 f5 f6 f7
        have HLOW := HLOW'
        have HZZ := HZZ'
        obtain ⟨a0, a1, a2, a3, a4, a5, a6, a7⟩ := box29 HAA'.out
        obtain ⟨d0, d1, d2, d3, d4, d5, d6, d7⟩ := box29 (show wc.heap[w.heap.size]? = some (.cells #[.int .i64 0, .string .empty, .int .i64 0, .int .i64 0, .int .i64 0, .int .i64 0, .int .i64 0, .string .empty] 29 (0, 0)) from HZZ.out)
        obtain ⟨f0, f1, f2, f3, f4, f5, f6, f7⟩ := box29f HZZ.out
        go_wp2
        have bE := blk_set (blk_set (blk_set (blk_set (blk_set (blk_set (blk_set (blk_set HZZ.out 0 (.int .i64 v1)) 1 (.string t7)) 2 (.int .i64 v2)) 3 (.int .i64 v3)) 4 (.int .i64 v4)) 5 (.int .i64 v5)) 6 (.int .i64 v8)) 7 (.string ta)
        refine bodyPost_ret (res34 _ w.heap.size _ _ _ _ _ _ _ _ _ _ _ _ _ _ _ _ _ _ _ _ _ _ _ _ _ _ _ _ _ _ _ _ _ _ _ _ _ _ _ _ _ _ _ _ _ _ _ _ _ _ _ _ v1 t7 v2 v3 v4 v5 v8 ta 0 bE) rfl ⟨rfl, ?_⟩
        have hg : w.heap.size ≤ w.heap.size := Nat.le_refl _
        have HL := HLOW.out
        exact (((((((HL.setCell (p := ⟨_, 0, none⟩) hg _).setCell (p := ⟨_, 1, none⟩) hg _).setCell (p := ⟨_, 2, none⟩) hg _).setCell (p := ⟨_, 3, none⟩) hg _).setCell (p := ⟨_, 4, none⟩) hg _).setCell (p := ⟨_, 5, none⟩) hg _).setCell (p := ⟨_, 6, none⟩) hg _).setCell (p := ⟨_, 7, none⟩) hg _
end Go.Proofs.YtpamgedmgjfjjaaDoor.M
end
section
namespace Go.Proofs.YtpamgedmgjfjjaaDoor.M
open Go.RowKit Go.Proofs.YtpamgedmgjfjjaaDoorW.PrintWords Go.Proofs.YtpamgedmgjfjjaaDoorW.PrintLast Go.Proofs.YtpamgedmgjfjjaaDoorW.PrintMore
set_option linter.unusedVariables false
set_option linter.unusedSimpArgs false
def finA (q : AnsV) : Option (List Int) → Int × AnsV
  | .none => (2, AnsV.none)
  | some l => ans5 q l
def refAns (b : List Int) : Int × AnsV :=
  let s1 := rN 1 (some b)
  let s2 := rN 1 s1.2
  let m := rN 4 s2.2
  let bl := rN 4 m.2
  let bd := rT bl.1 bl.2
  finA ⟨s1.1, s2.1 - 1, m.1, bd.1⟩ bd.2
theorem refAns_eq (b : List Int) (hb : Bytes b) : refAns b = ansG b := by
  match b, hb with
  | [], _ => rfl
  | [x], _ => simp only [refAns, rN1_cons, rN1_nil, rN_none, rT_none]; rfl
  | x0 :: x1 :: l6, hb =>
    have hb6 : Bytes l6 := fun x hx => hb x (by simp [hx])
    show _ = ans2 x0 (x1 - 1) l6
    simp only [refAns, rN1_cons]
    unfold ans2
    by_cases h4 : l6.length < 4
    · rw [if_pos h4, show rN 4 (some l6) = (0, .none) from if_neg (by omega)]
      simp only [rN_none, rT_none]; rfl
    · rw [if_neg h4, show rN 4 (some l6) = (numL (l6.take 4), some (l6.drop 4)) from if_pos (by omega)]
      simp only
      rw [rTN 4 (l6.drop 4) (fun x hx => hb6 x (List.mem_of_mem_drop hx))]
      unfold ans4
      rcases ht2 : textL 4 (l6.drop 4) with _ | ⟨body, l8⟩
      · rfl
      · rfl
theorem refMay_k (x : AnsV) : erratumref25_may.f x.e x.i x.r x.body = some x.ok := by
  unfold erratumref25_may.f AnsV.ok
  simp only [ref_in_B, Option.bind_some]
  have e : decide ((x.body.size : Int) ≤ 32768) = decide (x.body.size ≤ 32768) := by
    by_cases h : x.body.size ≤ 32768
    · rw [decide_eq_true h, decide_eq_true (by omega)]
    · rw [decide_eq_false h, decide_eq_false (by omega)]
  rw [e]
  cases inB x.e 0 11 <;> cases inB x.i (-1) 254 <;> cases inB x.r 0 2147483647 <;> simp
theorem refMay_calls (x : AnsV) (w : World) : Calls Tryd.prog 63 #[.agg x.cells] w fun e w' => e = .returned (.bool x.ok) ∧ Below w.heap.size w w' :=
  erratumref25_may.calls _ _ _ _ _ w (refMay_k x)
set_option maxRecDepth 100000 in
theorem res37 (w : World) (g : Nat) (t0 t1 t4 t5 t6 t7 t8 t9 t10 t11 t12 t13 t14 t15 t16 t17 t18 t19 t20 t21 t22 t23 t24 t25 t26 t27 t28 t29 t30 t31 t32 t33 t34 t35 t36 t37 t38 t39 t40 t41 t42 : Value) (k f mat : Int) (body : ByteArray) (e : Int)
    (h : w.heap[g]? = some (.cells #[.int .i64 k, .int .i64 f, .int .i64 mat, .string body] 32 (0, 0))) :
    (results Tryd.f37 #[t0, t1, .pointer (some ⟨g, 0, none⟩), .int .i64 e, t4, t5, t6, t7, t8, t9, t10, t11, t12, t13, t14, t15, t16, t17, t18, t19, t20, t21, t22, t23, t24, t25, t26, t27, t28, t29, t30, t31, t32, t33, t34, t35, t36, t37, t38, t39, t40, t41, t42]).run Tryd.prog w = .ok (.tuple #[.agg #[.int .i64 k, .int .i64 f, .int .i64 mat, .string body], .int .i64 e]) w := by
  obtain ⟨c0, c1, c2, c3⟩ := box32 h
  simp [results, Tryd.results37, go_sem, c0, c1, c2, c3]
set_option maxHeartbeats 8000000 in
set_option maxRecDepth 100000 in
theorem refAns_walk (s : ByteArray) (w : World) (hs : s.size ≤ 1000000) : Calls Tryd.prog 37 #[.string s] w fun e w' => e = .returned (.tuple #[.agg (refAns (bytesOf s)).2.cells, .int .i64 (refAns (bytesOf s)).1]) ∧ Below w.heap.size w w' := by
  obtain ⟨R, hR⟩ : ∃ R, refAns (bytesOf s) = R := ⟨_, rfl⟩
  rw [hR]
  unfold refAns at hR
  obtain ⟨v1, st1, e1⟩ : ∃ v st, rN 1 (some (bytesOf s)) = (v, st) := ⟨_, _, rfl⟩
  obtain ⟨v2, st2, e2⟩ : ∃ v st, rN 1 st1 = (v, st) := ⟨_, _, rfl⟩
  obtain ⟨v8, st8, e8⟩ : ∃ v st, rN 4 st2 = (v, st) := ⟨_, _, rfl⟩
  obtain ⟨v9, st9, e9⟩ : ∃ v st, rN 4 st8 = (v, st) := ⟨_, _, rfl⟩
  obtain ⟨ta, sta, ea⟩ : ∃ v st, rT v9 st9 = (v, st) := ⟨_, _, rfl⟩
  simp only [e1, e2, e8, e9, ea] at hR
  have H1 := Aside0.mk (fun W g (h : RW w W g s _) => h.num 1 hs (by decide) e1)
  have H2 := Aside0.mk (fun W g (h : RW w W g s _) => h.num 1 hs (by decide) e2)
  have H8 := Aside0.mk (fun W g (h : RW w W g s _) => h.num 4 hs (by decide) e8)
  have H9 := Aside0.mk (fun W g (h : RW w W g s _) => h.num 4 hs (by decide) e9)
  have Ha := Aside0.mk (fun W g (h : RW w W g s _) b1 b2 => h.txt v9 hs b1 b2 ea)
  have B2 := Aside0.mk (fun W g (h : RW w W g s st1) => show 0 ≤ v2 ∧ v2 ≤ 4294967296 by have := rN_bound h.rd 1 (by decide); rw [e2] at this; exact this)
  have B9 := Aside0.mk (fun W g (h : RW w W g s st8) => show 0 ≤ v9 ∧ v9 ≤ 4294967296 by have := rN_bound h.rd 4 (by decide); rw [e9] at this; exact this)
  have HR := Aside0.mk hR
  have HS := Aside0.mk hs
  have HZ := Aside0.mk (RW.new w s (.cells AnsV.none.cells 32))
  have hsz : (w.alloc (.cells AnsV.none.cells 32)).heap.size = w.heap.size + 1 := Array.size_push ..
  rw [hsz] at HZ
  have HZR := Aside0.mk (blk_alloc (blk_new w (.cells AnsV.none.cells 32)) (.cells #[.string s, .int .i64 0, .bool false] 93))
  clear hR e1 e2 e8 e9 ea hs hsz
  go_enter Tryd.func37, Tryd.ntmps37
  go_wp2_with fail
  refine (H1.out _ _ HZ.out).mono ?_
  rintro e w1 ⟨rfl, HR1, hk1⟩
  have hz1 := RW.blk (w0 := w) hk1 HZR.out (by omega)
  have hb2 := B2.out _ _ HR1
  have n0 : wrap64 (v2 - 1) = v2 - 1 := by unfold wrap64; omega
  clear H1 HZ HZR hk1 hb2
  go_wp2_with fail
  refine (H2.out _ _ HR1).mono ?_
  rintro e w2 ⟨rfl, HR2, hk⟩
  have hz2 := RW.blk (w0 := w) hk hz1 (by omega)
  have hb2 := B2.out _ _ HR1
  clear H2 HR1 hz1 hk
  go_wp2_with fail
  refine (H8.out _ _ HR2).mono ?_
  rintro e w5 ⟨rfl, HR5, hk⟩
  have hz5 := RW.blk (w0 := w) hk hz2 (by omega)
  clear H8 HR2 hz2 hk
  have HQ5 := HR5.alloc (.cells #[.int .i64 v1, .int .i64 (v2 - 1), .int .i64 v8, .string .empty] 32)
  have hna : w5.heap.size ≠ w.heap.size + 1 := by have := HR5.lt; omega
  have hwa : w.heap.size ≤ w5.heap.size := HR5.low.size
  have hza : w.heap.size ≠ w5.heap.size := by have := blk_lt hz5; omega
  have ha5 := blk_new w5 (.cells #[.int .i64 v1, .int .i64 (v2 - 1), .int .i64 v8, .string .empty] 32)
  have hz5' := blk_alloc hz5 (.cells #[.int .i64 v1, .int .i64 (v2 - 1), .int .i64 v8, .string .empty] 32)
  have HNA := Aside0.mk (And.intro hna (And.intro hwa hza))
  have HB9 := Aside0.mk (B9.out _ _ HQ5)
  clear hna hwa hza hz5 HR5
  go_wp2_with fail
  refine (H9.out _ _ HQ5).mono ?_
  rintro e w9 ⟨rfl, HR9, hk⟩
  have hz9 := RW.blk (w0 := w) hk hz5' (by omega)
  have ha9 := RW.blk (w0 := w) hk ha5 HNA.out.1
  clear H9 HQ5 hz5' ha5 hk
  go_wp2_with fail
  refine (Ha.out _ _ HR9 HB9.out.1 HB9.out.2).mono ?_
  rintro e wa ⟨rfl, HRa, hk⟩
  have hza := RW.blk (w0 := w) hk hz9 (by omega)
  have haa := RW.blk (w0 := w) hk ha9 HNA.out.1
  obtain ⟨c0, c1, c2, c3⟩ := box32 haa
  have f1 := blk_frozen haa 3
  have HRa' := Aside0.mk (HRa.far HNA.out.1.symm HNA.out.2.1 3 (.string ta))
  have HZZ := Aside0.mk (blk_far (p := ⟨w5.heap.size, 3, none⟩) hza HNA.out.2.2 (.string ta))
  have HAA := Aside0.mk (show (wa.setCell ⟨w5.heap.size, 3, none⟩ (.string ta)).heap[w5.heap.size]? = some (.cells #[.int .i64 v1, .int .i64 (v2 - 1), .int .i64 v8, .string ta] 32 (0, 0)) from blk_set haa 3 (.string ta))
  clear Ha HR9 hz9 ha9 hk HRa hza haa
  go_upto_region 4 with fail
  clear c0 c1 c2 c3 f1
  generalize wa.setCell ⟨w5.heap.size, 3, none⟩ (.string ta) = wb at HRa' HZZ HAA ⊢
  have HLOW := Aside0.mk HRa'.out.low
  obtain ⟨d0, d1, d2, d3⟩ := box32 (show wb.heap[w.heap.size]? = some (.cells #[.int .i64 0, .int .i64 0, .int .i64 0, .string .empty] 32 (0, 0)) from HZZ.out)
  obtain ⟨f0, f1, f2, f3⟩ := box32f HZZ.out
  cases sta with
  | none =>
    obtain ⟨k, hI⟩ := HRa'.out.rd
    have g2 := cellS93_2 hI.1
    have hr := HR.out
    subst hr
    clear HRa' hI HAA
    go_wp2
    have bE := blk_set (blk_set (blk_set (blk_set HZZ.out 0 (.int .i64 0)) 1 (.int .i64 0)) 2 (.int .i64 0)) 3 (.string .empty)
    refine bodyPost_ret (res37 _ w.heap.size _ _ _ _ _ _ _ _ _ _ _ _ _ _ _ _ _ _ _ _ _ _ _ _ _ _ _ _ _ _ _ _ _ _ _ _ _ _ _ _ _ 0 0 0 .empty 2 bE) rfl ⟨rfl, ?_⟩
    have hg : w.heap.size ≤ w.heap.size := Nat.le_refl _
    have HL := HLOW.out
    exact (((HL.setCell (p := ⟨_, 0, none⟩) hg _).setCell (p := ⟨_, 1, none⟩) hg _).setCell (p := ⟨_, 2, none⟩) hg _).setCell (p := ⟨_, 3, none⟩) hg _
  | some l =>
    obtain ⟨k, hk, hl, hI⟩ := HRa'.out.rd
    have g1 := cellS93_1 hI.1
    have g2 := cellS93_2 hI.1
    by_cases hks : k < s.size
    · have n1 : decide ((k : Int) < (s.size : Int)) = true := decide_eq_true (by omega)
      have hr := HR.out
      have hne : l ≠ [] := by
        intro h0
        rw [hl, List.drop_eq_nil_iff, bytesOf_length] at h0
        omega
      rw [show finA _ (some l) = (2, AnsV.none) from if_pos hne] at hr
      subst hr
      have n2 : decide (k < s.size) = true := decide_eq_true hks
      clear HRa' hI HAA hl hne hk
      go_wp2
      have bE := blk_set (blk_set (blk_set (blk_set HZZ.out 0 (.int .i64 0)) 1 (.int .i64 0)) 2 (.int .i64 0)) 3 (.string .empty)
      refine bodyPost_ret (res37 _ w.heap.size _ _ _ _ _ _ _ _ _ _ _ _ _ _ _ _ _ _ _ _ _ _ _ _ _ _ _ _ _ _ _ _ _ _ _ _ _ _ _ _ _ 0 0 0 .empty 2 bE) rfl ⟨rfl, ?_⟩
      have hg : w.heap.size ≤ w.heap.size := Nat.le_refl _
      have HL := HLOW.out
      exact (((HL.setCell (p := ⟨_, 0, none⟩) hg _).setCell (p := ⟨_, 1, none⟩) hg _).setCell (p := ⟨_, 2, none⟩) hg _).setCell (p := ⟨_, 3, none⟩) hg _
    · have n1 : decide ((k : Int) < (s.size : Int)) = false := decide_eq_false (by omega)
      have hne : l = [] := by rw [hl, List.drop_eq_nil_iff, bytesOf_length]; omega
      subst hne
      have hr := HR.out
      have n2 : decide (k < s.size) = false := decide_eq_false hks
      obtain ⟨a0, a1, a2, a3⟩ := box32 HAA.out
      have HCk := Aside0.mk (refMay_calls ⟨v1, v2 - 1, v8, ta⟩ wb)
      simp only [AnsV.cells] at HCk
      have hr' : (if (AnsV.mk v1 (v2 - 1) v8 ta).ok then (0, AnsV.mk v1 (v2 - 1) v8 ta) else (1, AnsV.none)) = R := hr
      clear HRa' hI hl hk HR hr
      cases hok : (AnsV.mk v1 (v2 - 1) v8 ta).ok
      · rw [hok] at hr' HCk
        simp only [Bool.false_eq_true, if_false] at hr'
        subst hr'
        go_wp2_with fail
        refine HCk.out.mono ?_
        rintro e wc ⟨rfl, hb⟩
        have HLOW' := Aside0.mk (below_then HLOW.out HLOW.out.size hb)
        have HZZ' := Aside0.mk (blk_below HZZ.out hb)
        clear HLOW HZZ HCk HAA hb a0 a1 a2 a3 d0 d1 d2 d3 f0 f1 f2 f3
        have HLOW := HLOW'
        have HZZ := HZZ'
        obtain ⟨d0, d1, d2, d3⟩ := box32 (show wc.heap[w.heap.size]? = some (.cells #[.int .i64 0, .int .i64 0, .int .i64 0, .string .empty] 32 (0, 0)) from HZZ.out)
        obtain ⟨f0, f1, f2, f3⟩ := box32f HZZ.out
        go_wp2
        have bE := blk_set (blk_set (blk_set (blk_set HZZ.out 0 (.int .i64 0)) 1 (.int .i64 0)) 2 (.int .i64 0)) 3 (.string .empty)
        refine bodyPost_ret (res37 _ w.heap.size _ _ _ _ _ _ _ _ _ _ _ _ _ _ _ _ _ _ _ _ _ _ _ _ _ _ _ _ _ _ _ _ _ _ _ _ _ _ _ _ _ 0 0 0 .empty 1 bE) rfl ⟨rfl, ?_⟩
        have hg : w.heap.size ≤ w.heap.size := Nat.le_refl _
        have HL := HLOW.out
        exact (((HL.setCell (p := ⟨_, 0, none⟩) hg _).setCell (p := ⟨_, 1, none⟩) hg _).setCell (p := ⟨_, 2, none⟩) hg _).setCell (p := ⟨_, 3, none⟩) hg _
      · rw [hok] at hr' HCk
        simp only [if_true] at hr'
        subst hr'
        go_wp2_with fail
        refine HCk.out.mono ?_
        rintro e wc ⟨rfl, hb⟩
        have HLOW' := Aside0.mk (below_then HLOW.out HLOW.out.size hb)
        have HZZ' := Aside0.mk (blk_below HZZ.out hb)
        have HAA' := Aside0.mk (blk_below HAA.out hb)
        clear HLOW HZZ HCk HAA hb a0 a1 a2 a3 d0 d1 d2 d3 f0 f1 f2 f3
        have HLOW := HLOW'
        have HZZ := HZZ'
        obtain ⟨a0, a1, a2, a3⟩ := box32 HAA'.out
        obtain ⟨d0, d1, d2, d3⟩ := box32 (show wc.heap[w.heap.size]? = some (.cells #[.int .i64 0, .int .i64 0, .int .i64 0, .string .empty] 32 (0, 0)) from HZZ.out)
        obtain ⟨f0, f1, f2, f3⟩ := box32f HZZ.out
        go_wp2
        have bE := blk_set (blk_set (blk_set (blk_set HZZ.out 0 (.int .i64 v1)) 1 (.int .i64 (v2 - 1))) 2 (.int .i64 v8)) 3 (.string ta)
        refine bodyPost_ret (res37 _ w.heap.size _ _ _ _ _ _ _ _ _ _ _ _ _ _ _ _ _ _ _ _ _ _ _ _ _ _ _ _ _ _ _ _ _ _ _ _ _ _ _ _ _ v1 (v2 - 1) v8 ta 0 bE) rfl ⟨rfl, ?_⟩
        have hg : w.heap.size ≤ w.heap.size := Nat.le_refl _
        have HL := HLOW.out
        exact (((HL.setCell (p := ⟨_, 0, none⟩) hg _).setCell (p := ⟨_, 1, none⟩) hg _).setCell (p := ⟨_, 2, none⟩) hg _).setCell (p := ⟨_, 3, none⟩) hg _
end Go.Proofs.YtpamgedmgjfjjaaDoor.M
end
