/-
Lemmas for FrameAll, for every input they speak of: XFAns, XFBackP.
-/
import Derived.Test.YtpamgedmgjfjjaaDoorKFrameAll10
section
namespace Go.Proofs.YtpamgedmgjfjjaaDoor.M
open Go.RowKit Go.Proofs.YtpamgedmgjfjjaaDoorW.PrintWords Go.Proofs.YtpamgedmgjfjjaaDoorW.PrintLast Go.Proofs.YtpamgedmgjfjjaaDoorW.PrintMore
set_option linter.unusedVariables false
set_option linter.unusedSimpArgs false
def AnsV.none : AnsV := ⟨0, 0, 0, .empty⟩
def ans5 (x : AnsV) (l : List Int) : Int × AnsV := if l ≠ [] then (2, AnsV.none) else if x.ok then (0, x) else (1, AnsV.none)
def ans4 (e i r : Int) (l : List Int) : Int × AnsV :=
  match textL 4 l with
  | .none => (2, AnsV.none)
  | some (body, l') => ans5 ⟨e, i, r, body⟩ l'
def ans2 (e i : Int) (l : List Int) : Int × AnsV := if l.length < 4 then (2, AnsV.none) else ans4 e i (numL (l.take 4)) (l.drop 4)
def ansG : List Int → Int × AnsV
  | e :: i :: l => ans2 e (i - 1) l
  | _ => (2, AnsV.none)
set_option maxHeartbeats 4000000 in
set_option maxRecDepth 100000 in
theorem ans1_calls (w0 w : World) (b a : Nat) (l : List Int) (A : Option Addr) (c : Nat) (hb : w.heap[b]? = some (.cells #[.slice A l.length c] 33 (0, 0)))
    (ha : w.heap[a]? = some (.cells AnsV.none.cells 32 (0, 0))) (hwa : w0.heap.size ≤ a) (hlow : Below w0.heap.size w0 w) (hc : l.length ≤ c) (hC : (Kd.int .u8).C w0 A l.length l) (hl : l.length ≤ 1000000) (hby : Bytes l) :
    Calls Tryd.prog 64 #[.pointer (some ⟨b, 0, none⟩), .pointer (some ⟨a, 0, none⟩)] w fun e w' => KeepBut w w' a none ∧ Below w0.heap.size w0 w' ∧
      ((ansG l).1 = 0 ∧ e = .returned (.tuple #[]) ∧ w'.heap[a]? = some (.cells (ansG l).2.cells 32 (0, 0)) ∨ (ansG l).1 ≠ 0 ∧ e = .panicked (Thrown (ansG l).1)) := by
  obtain ⟨R, hR⟩ : ∃ R, ansG l = R := ⟨_, rfl⟩
  rw [hR]
  have HG := Aside0.mk hR
  have c1 := blk_cell hb 0
  simp only [List.getElem?_toArray, List.getElem?_cons_zero] at c1
  have hlt := blk_lt ha
  have HS := Aside0.mk (show St 32 w0 w (w.alloc (.cells #[.slice A l.length c] 85)) a w.heap.size #[.int .i64 0, .int .i64 0, .int .i64 0, .string .empty] l from
    ⟨hlt, Nat.le_refl _, hwa, KeepBut.of_below (below_alloc (Below.refl _ _) _) a none, below_alloc hlow _, blk_alloc ha _, ⟨Nat.le_of_lt (Nat.lt_of_le_of_lt hwa hlt), below_alloc hlow _, A, c, blk_new _ _, hc, hC⟩⟩)
  have HL := Aside0.mk hl
  have HBY := Aside0.mk hby
  clear hR hb ha hwa hlow hc hC hl hby hlt
  go_enter Tryd.func64, Tryd.ntmps64
  rcases l with _ | ⟨x0, l1⟩
  · have hg := HG.out
    subst hg
    have hbad := Aside0.mk (HS.out.num_bad 1 (by decide))
    go_wp2_with fail
    refine hbad.out.mono ?_
    rintro e w1 ⟨rfl, h1, h2⟩
    exact ⟨rfl, h1, h2, .inr ⟨by show (2 : Int) ≠ 0; decide, rfl⟩⟩
  have hcal := Aside0.mk (HS.out.num1 HL.out HBY.out)
  go_wp2_with fail
  refine hcal.out.mono ?_
  rintro e w1 ⟨rfl, hs1, _⟩
  obtain ⟨d1, f1⟩ := hs1.cell 0 (.int .i64 0) rfl
  have HS1 := Aside0.mk ((hs1.put 0 (.int .i64 x0)).eq (show _ = #[.int .i64 x0, .int .i64 0, .int .i64 0, .string .empty] from rfl))
  have HL1 := Aside0.mk (show l1.length ≤ 1000000 by have := HL.out; simp only [List.length_cons] at this; omega)
  have HB1 := Aside0.mk (show Bytes l1 from fun x hx => HBY.out x (by simp [hx]))
  clear hs1 hcal HS
  rcases l1 with _ | ⟨x1, l2⟩
  · have hg := HG.out
    subst hg
    have hbad := Aside0.mk (HS1.out.num_bad 1 (by decide))
    go_wp2_with fail
    refine hbad.out.mono ?_
    rintro e w2 ⟨rfl, h1, h2⟩
    exact ⟨rfl, h1, h2, .inr ⟨by show (2 : Int) ≠ 0; decide, rfl⟩⟩
  have hcal := Aside0.mk (HS1.out.num1 HL1.out HB1.out)
  have HX1 := Aside0.mk (HB1.out x1 (by simp))
  have e2 : wrap64 (x1 - 1) = x1 - 1 := by unfold wrap64; have := HX1.out; omega
  go_wp2_with fail
  refine hcal.out.mono ?_
  rintro e w2 ⟨rfl, hs1, _⟩
  obtain ⟨d2, f2⟩ := hs1.cell 1 (.int .i64 0) rfl
  have HS2 := Aside0.mk ((hs1.put 1 (.int .i64 (x1 - 1))).eq (show _ = #[.int .i64 x0, .int .i64 (x1 - 1), .int .i64 0, .string .empty] from rfl))
  have HL6 := Aside0.mk (show l2.length ≤ 1000000 by have := HL1.out; simp only [List.length_cons] at this; omega)
  have HB6 := Aside0.mk (show Bytes l2 from fun x hx => HB1.out x (by simp [hx]))
  have HG6 := Aside0.mk (show ans2 x0 (x1 - 1) l2 = R from HG.out)
  clear hs1 hcal HS1 HG HL HBY HL1 HB1
  by_cases h4 : l2.length < 4
  · have hg := HG6.out
    rw [ans2, if_pos h4] at hg
    subst hg
    have hbad := Aside0.mk (HS2.out.num_bad 4 h4)
    go_wp2_with fail
    refine hbad.out.mono ?_
    rintro e w3 ⟨rfl, h1, h2⟩
    exact ⟨rfl, h1, h2, .inr ⟨by show (2 : Int) ≠ 0; decide, rfl⟩⟩
  have hcal := Aside0.mk (HS2.out.num4 (by omega) HL6.out HB6.out)
  have HG7 := Aside0.mk (show ans4 x0 (x1 - 1) (numL (l2.take 4)) (l2.drop 4) = R by have := HG6.out; rw [ans2, if_neg h4] at this; exact this)
  generalize numL (l2.take 4) = mat at hcal HG7
  have HL7 := Aside0.mk (show (l2.drop 4).length ≤ 1000000 by rw [List.length_drop]; have := HL6.out; omega)
  have HB7 := Aside0.mk (show Bytes (l2.drop 4) from fun x hx => HB6.out x (List.mem_of_mem_drop hx))
  generalize l2.drop 4 = l7 at hcal HG7 HL7 HB7
  clear h4 HG6 HL6 HB6 HS2 d1 f1
  go_wp2_with fail
  refine hcal.out.mono ?_
  rintro e w3 ⟨rfl, hs1⟩
  obtain ⟨d3, f3⟩ := hs1.cell 2 (.int .i64 0) rfl
  have HS7 := Aside0.mk ((hs1.put 2 (.int .i64 mat)).eq (show _ = #[.int .i64 x0, .int .i64 (x1 - 1), .int .i64 mat, .string .empty] from rfl))
  clear hs1 hcal d2 f2
  rcases ht : textL 4 l7 with _ | ⟨body, l8⟩
  · have hg := HG7.out
    simp only [ans4, ht] at hg
    subst hg
    have hbad := Aside0.mk (HS7.out.textN 4 (by decide) ht HL7.out HB7.out)
    go_wp2_with fail
    refine hbad.out.mono ?_
    rintro e w1 ⟨rfl, h1, h2⟩
    exact ⟨rfl, h1, h2, .inr ⟨by show (2 : Int) ≠ 0; decide, rfl⟩⟩
  have HG8 := Aside0.mk (show ans5 ⟨x0, x1 - 1, mat, body⟩ l8 = R by have := HG7.out; simp only [ans4, ht] at this; exact this)
  have hcal := Aside0.mk (HS7.out.textS 4 (by decide) ht HL7.out HB7.out)
  clear ht HS7 HG7 HB7 HL7
  go_wp2_with fail
  refine hcal.out.mono ?_
  rintro e w4 ⟨rfl, hs1⟩
  obtain ⟨d1, f1⟩ := hs1.cell 3 (.string .empty) rfl
  have HS8 := Aside0.mk ((hs1.put 3 (.string body)).eq (show _ = #[.int .i64 x0, .int .i64 (x1 - 1), .int .i64 mat, .string body] from rfl))
  clear hs1 hcal d3 f3
  by_cases h8 : l8 ≠ []
  · have hg := HG8.out
    rw [ans5, if_pos h8] at hg
    subst hg
    have hbad := Aside0.mk (HS8.out.fin_bad h8)
    go_wp2_with fail
    refine hbad.out.mono ?_
    rintro e w5 ⟨rfl, h1, h2⟩
    exact ⟨rfl, h1, h2, .inr ⟨by show (2 : Int) ≠ 0; decide, rfl⟩⟩
  have h8' : l8 = [] := by simpa using h8
  subst h8'
  clear h8
  have hcal := Aside0.mk HS8.out.fin
  have HG9 := Aside0.mk (show (if (AnsV.mk x0 (x1 - 1) mat body).ok then (0, AnsV.mk x0 (x1 - 1) mat body) else (1, AnsV.none)) = R from HG8.out)
  clear HG8 HS8
  go_wp2_with fail
  refine hcal.out.mono ?_
  rintro e w5 ⟨rfl, hs1⟩
  have HS9 := Aside0.mk hs1
  obtain ⟨c0, c1, c2, c3⟩ := box32 hs1.blk
  clear hs1 hcal d1 f1
  rcases hok : (AnsV.mk x0 (x1 - 1) mat body).ok
  · have HCH := Aside0.mk (may_calls ⟨x0, x1 - 1, mat, body⟩ false hok w5)
    simp only [AnsV.cells] at HCH
    have hg := HG9.out
    rw [hok] at hg
    simp only [Bool.false_eq_true, if_false] at hg
    subst hg
    go_wp2_with fail
    refine HCH.out.mono ?_
    rintro e w6 ⟨rfl, hb⟩
    go_wp2_with fail
    refine (must_bad w6).mono ?_
    rintro e w7 ⟨rfl, rfl⟩
    exact ⟨rfl, keep_step HS9.out.keep (hb.mono HS9.out.keep.1), below_then HS9.out.low HS9.out.low.size hb, .inr ⟨by show (1 : Int) ≠ 0; decide, rfl⟩⟩
  · have HCH := Aside0.mk (may_calls ⟨x0, x1 - 1, mat, body⟩ true hok w5)
    simp only [AnsV.cells] at HCH
    have hg := HG9.out
    rw [hok] at hg
    simp only [if_true] at hg
    subst hg
    go_wp2_with fail
    refine HCH.out.mono ?_
    rintro e w6 ⟨rfl, hb⟩
    go_wp2_with fail
    refine (must_ok w6).mono ?_
    rintro e w7 ⟨rfl, rfl⟩
    have HF := Aside0.mk (show KeepBut w w7 a none ∧ Below w0.heap.size w0 w7 ∧ w7.heap[a]? = some (.cells #[.int .i64 x0, .int .i64 (x1 - 1), .int .i64 mat, .string body] 32 (0, 0)) from
      ⟨keep_step HS9.out.keep (hb.mono HS9.out.keep.1), below_then HS9.out.low HS9.out.low.size hb, blk_below HS9.out.blk hb⟩)
    clear hb
    go_wp2
    go_end0
    exact ⟨HF.out.1, HF.out.2.1, rfl, HF.out.2.2⟩
set_option maxHeartbeats 4000000 in
set_option maxRecDepth 100000 in
theorem ans_try (w : World) (l : List Int) (A : Option Addr) (c : Nat) (hc : l.length ≤ c) (hC : (Kd.int .u8).C w A l.length l) (hl : l.length ≤ 1000000) (hby : Bytes l) (w3 : World)
    (h0 : w3.heap.size = w.heap.size + 3) (h1 : w3.heap[w.heap.size]? = some (.cells #[.slice A l.length c] 33 (0, 0))) (h2 : w3.heap[w.heap.size + 1]? = some (.cells AnsV.none.cells 32 (0, 0))) (h3 : w3.heap[w.heap.size + 1 + 1]? = some (.cells AnsV.none.cells 32 (0, 0))) (hb : Below w.heap.size w w3) :
    Calls Tryd.prog 54 #[.func (.func 64) #[] #[.pointer (some ⟨w.heap.size, 0, none⟩), .pointer (some ⟨w.heap.size + 1 + 1, 0, none⟩)]] w3 fun e w' => e = .returned (.int .i64 (ansG l).1) ∧ Below w.heap.size w w' ∧ w'.heap[w.heap.size + 1]? = some (.cells AnsV.none.cells 32 (0, 0)) ∧
      ((ansG l).1 = 0 → w'.heap[w.heap.size + 1 + 1]? = some (.cells (ansG l).2.cells 32 (0, 0))) := by
  have hG := ans1_calls w (w3.alloc (.cells #[.int .i64 0] 30)) w.heap.size (w.heap.size + 1 + 1) l A c (blk_alloc h1 _) (blk_alloc h3 _) (by omega) (below_alloc hb _) hc hC hl hby
  have hs4 : (w3.alloc (.cells #[.int .i64 0] 30)).heap.size = w.heap.size + 4 := (Array.size_push ..).trans (by rw [h0])
  have hfin : ∀ (w1 : World) (v : Value), KeepBut (w3.alloc (.cells #[.int .i64 0] 30)) w1 (w.heap.size + 1 + 1) none → Below w.heap.size w w1 → Below w.heap.size w (w1.setCell ⟨w3.heap.size, 0, none⟩ v) ∧ (w1.setCell ⟨w3.heap.size, 0, none⟩ v).heap[w.heap.size + 1]? = some (.cells AnsV.none.cells 32 (0, 0)) ∧
      ∀ cs, w1.heap[w.heap.size + 1 + 1]? = some (.cells cs 32 (0, 0)) → (w1.setCell ⟨w3.heap.size, 0, none⟩ v).heap[w.heap.size + 1 + 1]? = some (.cells cs 32 (0, 0)) := by
    intro w1 v hk hb1
    refine ⟨hb1.setCell (p := ⟨w3.heap.size, 0, none⟩) (by show w.heap.size ≤ w3.heap.size; omega) v, blk_far (p := ⟨w3.heap.size, 0, none⟩) ((hk.2 _ (by omega) (by omega) (by simp)).trans (blk_alloc h2 _)) (by show w.heap.size + 1 ≠ w3.heap.size; omega) v, fun cs hcs => blk_far (p := ⟨w3.heap.size, 0, none⟩) hcs (by show w.heap.size + 1 + 1 ≠ w3.heap.size; omega) v⟩
  have hres : ∀ w1, KeepBut (w3.alloc (.cells #[.int .i64 0] 30)) w1 (w.heap.size + 1 + 1) none → w1.heap[w3.heap.size]? = some (.cells #[.int .i64 0] 30 (0, 0)) := fun w1 hk => (hk.2 _ (by omega) (by omega) (by simp)).trans (blk_new w3 _)
  by_cases hz : (ansG l).1 = 0
  · rw [hz]
    refine (try_ok64 _ w3 (fun w1 => KeepBut (w3.alloc (.cells #[.int .i64 0] 30)) w1 (w.heap.size + 1 + 1) none ∧ Below w.heap.size w w1 ∧ w1.heap[w.heap.size + 1 + 1]? = some (.cells (ansG l).2.cells 32 (0, 0))) (hG.mono ?_)).mono ?_
    · rintro e w1 ⟨hk, hb1, ⟨_, rfl, hq⟩ | ⟨hn, _⟩⟩
      · exact ⟨rfl, hres w1 hk, hk, hb1, hq⟩
      · exact absurd hz hn
    · rintro e w' ⟨rfl, w1, ⟨hk, hb1, hq⟩, rfl⟩
      obtain ⟨f1, f2, f3⟩ := hfin w1 (.int .i64 0) hk hb1
      exact ⟨rfl, f1, f2, fun _ => f3 _ hq⟩
  · refine (try_bad64 _ w3 (ansG l).1 (fun w1 => KeepBut (w3.alloc (.cells #[.int .i64 0] 30)) w1 (w.heap.size + 1 + 1) none ∧ Below w.heap.size w w1) (hG.mono ?_)).mono ?_
    · rintro e w1 ⟨hk, hb1, ⟨hn, _⟩ | ⟨_, rfl⟩⟩
      · exact absurd hn hz
      · exact ⟨rfl, hres w1 hk, hk, hb1⟩
    · rintro e w' ⟨rfl, w1, ⟨hk, hb1⟩, rfl⟩
      obtain ⟨f1, f2, f3⟩ := hfin w1 (.int .i64 (ansG l).1) hk hb1
      exact ⟨rfl, f1, f2, fun h => absurd h hz⟩
set_option maxRecDepth 100000 in
theorem res36 (w : World) (g : Nat) (t0 t1 t4 t5 t6 t7 t8 t9 t10 t11 t12 : Value) (k f mat : Int) (body : ByteArray) (e : Int)
    (h : w.heap[g]? = some (.cells #[.int .i64 k, .int .i64 f, .int .i64 mat, .string body] 32 (0, 0))) :
    (results Tryd.f36 #[t0, t1, .pointer (some ⟨g, 0, none⟩), .int .i64 e, t4, t5, t6, t7, t8, t9, t10, t11, t12]).run Tryd.prog w = .ok (.tuple #[.agg #[.int .i64 k, .int .i64 f, .int .i64 mat, .string body], .int .i64 e]) w := by
  obtain ⟨c0, c1, c2, c3⟩ := box32 h
  simp [results, Tryd.results36, go_sem, c0, c1, c2, c3]
theorem box32f {w : World} {g : Nat} {cs : Array Value} (h : w.heap[g]? = some (.cells cs 32 (0, 0))) : w.frozen? ⟨g, 0, none⟩ = false ∧ w.frozen? ⟨g, 1, none⟩ = false ∧ w.frozen? ⟨g, 2, none⟩ = false ∧ w.frozen? ⟨g, 3, none⟩ = false :=
  ⟨blk_frozen h 0, blk_frozen h 1, blk_frozen h 2, blk_frozen h 3⟩
set_option maxHeartbeats 4000000 in
set_option maxRecDepth 100000 in
theorem ans_good (w : World) (l : List Int) (A : Option Addr) (c : Nat) (q : AnsV) (hq : ansG l = (0, q)) (hc : l.length ≤ c) (hC : (Kd.int .u8).C w A l.length l) (hl : l.length ≤ 1000000) (hby : Bytes l) :
    Calls Tryd.prog 36 #[.slice A l.length c] w fun e w' => e = .returned (.tuple #[.agg q.cells, .int .i64 0]) ∧ Below w.heap.size w w' := by
  have hmf : ∀ (fn : Fn) (first cap : Array Value) (w : World), (Instr.makeFunc fn first cap).run Tryd.prog w = .ok (.func fn first cap) w := fun _ _ _ _ => rfl
  have HT := Aside0.mk (ans_try w l A c hc hC hl hby)
  rw [hq] at HT
  clear hC hq hby hl hc
  obtain ⟨k, f, mat, body⟩ := q
  go_enter Tryd.func36, Tryd.ntmps36
  go_wp2_with fail
  obtain ⟨t0, t1, t2, t3, t4⟩ := three w (Obj.cells #[Value.slice A l.length c] 33) (Obj.cells #[.int .i64 0, .int .i64 0, .int .i64 0, .string { data := #[] }] 32) (Obj.cells #[.int .i64 0, .int .i64 0, .int .i64 0, .string { data := #[] }] 32)
  refine (HT.out _ t0 t1 t2 t3 t4).mono ?_
  rintro e w4 ⟨rfl, hb, b2, b3⟩
  have b4 := b3 trivial
  obtain ⟨c0, c1, c2, c3⟩ := box32 b4
  clear b3 t0 t1 t2 t3 t4 HT
  have HB := Aside0.mk hb
  have B2 := Aside0.mk b2
  obtain ⟨d0, d1, d2, d3⟩ := box32 (show w4.heap[w.heap.size + 1]? = some (.cells #[.int .i64 0, .int .i64 0, .int .i64 0, .string .empty] 32 (0, 0)) from b2)
  obtain ⟨f0, f1, f2, f3⟩ := box32f b2
  clear hb b2 b4
  go_wp2
  have bE := blk_set (blk_set (blk_set (blk_set B2.out 0 (.int .i64 k)) 1 (.int .i64 f)) 2 (.int .i64 mat)) 3 (.string body)
  refine bodyPost_ret (res36 _ (w.heap.size + 1) _ _ _ _ _ _ _ _ _ _ _ k f mat body 0 bE) rfl ⟨rfl, ?_⟩
  have hg : w.heap.size ≤ w.heap.size + 1 := by omega
  exact (((HB.out.setCell (p := ⟨_, 0, none⟩) hg _).setCell (p := ⟨_, 1, none⟩) hg _).setCell (p := ⟨_, 2, none⟩) hg _).setCell (p := ⟨_, 3, none⟩) hg _
set_option maxHeartbeats 4000000 in
set_option maxRecDepth 100000 in
theorem ans_bad (w : World) (l : List Int) (A : Option Addr) (c : Nat) (e : Int) (he : (ansG l).1 = e) (h0 : e ≠ 0) (hc : l.length ≤ c) (hC : (Kd.int .u8).C w A l.length l) (hl : l.length ≤ 1000000) (hby : Bytes l) :
    Calls Tryd.prog 36 #[.slice A l.length c] w fun r w' => r = .returned (.tuple #[.agg AnsV.none.cells, .int .i64 e]) ∧ Below w.heap.size w w' := by
  have hmf : ∀ (fn : Fn) (first cap : Array Value) (w : World), (Instr.makeFunc fn first cap).run Tryd.prog w = .ok (.func fn first cap) w := fun _ _ _ _ => rfl
  have HT := Aside0.mk (ans_try w l A c hc hC hl hby)
  rw [he] at HT
  have n1 : (e != 0) = true := bne_iff_ne.2 h0
  clear hC he hby hl hc h0
  go_enter Tryd.func36, Tryd.ntmps36
  go_wp2_with fail
  obtain ⟨t0, t1, t2, t3, t4⟩ := three w (Obj.cells #[Value.slice A l.length c] 33) (Obj.cells #[.int .i64 0, .int .i64 0, .int .i64 0, .string { data := #[] }] 32) (Obj.cells #[.int .i64 0, .int .i64 0, .int .i64 0, .string { data := #[] }] 32)
  refine (HT.out _ t0 t1 t2 t3 t4).mono ?_
  rintro r w4 ⟨rfl, hb, b2, b3⟩
  clear b3 t0 t1 t2 t3 t4 HT
  have HB := Aside0.mk hb
  have B2 := Aside0.mk b2
  obtain ⟨d0, d1, d2, d3⟩ := box32 (show w4.heap[w.heap.size + 1]? = some (.cells #[.int .i64 0, .int .i64 0, .int .i64 0, .string .empty] 32 (0, 0)) from b2)
  obtain ⟨f0, f1, f2, f3⟩ := box32f b2
  clear hb b2
  go_wp2
  have bE := blk_set (blk_set (blk_set (blk_set B2.out 0 (.int .i64 0)) 1 (.int .i64 0)) 2 (.int .i64 0)) 3 (.string .empty)
  refine bodyPost_ret (res36 _ (w.heap.size + 1) _ _ _ _ _ _ _ _ _ _ _ 0 0 0 .empty e bE) rfl ⟨rfl, ?_⟩
  have hg : w.heap.size ≤ w.heap.size + 1 := by omega
  exact (((HB.out.setCell (p := ⟨_, 0, none⟩) hg _).setCell (p := ⟨_, 1, none⟩) hg _).setCell (p := ⟨_, 2, none⟩) hg _).setCell (p := ⟨_, 3, none⟩) hg _
end Go.Proofs.YtpamgedmgjfjjaaDoor.M
end
section
namespace Go.Proofs.YtpamgedmgjfjjaaDoor.M
open Go.RowKit Go.Proofs.YtpamgedmgjfjjaaDoorW.PrintWords Go.Proofs.YtpamgedmgjfjjaaDoorW.PrintLast Go.Proofs.YtpamgedmgjfjjaaDoorW.PrintMore
set_option linter.unusedVariables false
set_option linter.unusedSimpArgs false
theorem bytes_take {l : List Int} (h : Bytes l) (k : Nat) : Bytes (l.take k) := fun x hx => h x (List.mem_of_mem_take hx)
end Go.Proofs.YtpamgedmgjfjjaaDoor.M
end
