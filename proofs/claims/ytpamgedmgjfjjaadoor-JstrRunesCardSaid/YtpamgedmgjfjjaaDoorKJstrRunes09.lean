/-
Lemmas for JstrRunes, for every input they speak of: XJUnq, XJQuote, XJAwake, XJRefQ, XJBackP, XJHex.
-/
import Derived.Test.YtpamgedmgjfjjaaDoorKJstrRunes08
import Derived.Defers
import Derived.Recover
import Derived.Test.YtpamgedmgjfjjaaDoorKJstrRunes03
import Derived.Test.YtpamgedmgjfjjaaDoorKJstrRunes05
import Derived.Test.YtpamgedmgjfjjaaDoorKJstrRunes01
import Derived.Test.YtpamgedmgjfjjaaDoorKJstrRunes07
section
namespace Go.Proofs.YtpamgedmgjfjjaaDoor.M
open Go.RowKit Go.Proofs.YtpamgedmgjfjjaaDoorW.PrintWords Go.Proofs.YtpamgedmgjfjjaaDoorW.PrintLast Go.Proofs.YtpamgedmgjfjjaaDoorW.PrintMore
open Go.Lib (byteCells byteCells_length strCells strCells_length cell_of_heap frozen_of_heap ownBlock_ne alloc_old)
set_option linter.unusedVariables false
set_option linter.unusedSimpArgs false
set_option maxHeartbeats 2000000 in
set_option maxRecDepth 100000 in
theorem unq1_idle (p q r : Addr) (w : World) :
    CallsD Tryd.prog 65 #[.pointer (some p), .pointer (some q), .pointer (some r)] .returning w fun e u' w' => e = .returned (.tuple #[]) ∧ u' = .returning ∧ w' = w := by
  have hn : ∀ w : World, (binOp BinOp.neq 20 .nilIface .nilIface).run Tryd.prog w = .ok (.bool false) w := fun _ => by kernel_rfl
  refine callsD_of_wpS Tryd.func65 rfl fun c₀ cs hu => ?_
  apply wpS_seq
  apply wpS_region
  simp [wpOpsS, go_sem, recoverD, hu, Tryd.ntmps65, Exit.thenS]
  refine wpS_of_wp ?_
  go_wp2
  cases c₀
  simp_all [bodyPostS, results, Tryd.results65]
set_option maxHeartbeats 2000000 in
set_option maxRecDepth 100000 in
theorem unq1_thrown (p q r : Nat) (s0 : ByteArray) (n0 e0 : Int) (w : World) (hp : w.heap[p]? = some (.cells #[.string s0] 9 (0, 0))) (hq : w.heap[q]? = some (.cells #[.int .i64 n0] 3 (0, 0))) (hr : w.heap[r]? = some (.cells #[.int .i64 e0] 30 (0, 0))) (hpq : p ≠ q) (hpr : p ≠ r) (hqr : q ≠ r) :
    CallsD Tryd.prog 65 #[.pointer (some ⟨p, 0, none⟩), .pointer (some ⟨q, 0, none⟩), .pointer (some ⟨r, 0, none⟩)] (.panicking ThrownJ) w fun e u' w' =>
      e = .returned (.tuple #[]) ∧ u' = .panicking [{ v := .iface 30 (.int .i64 2), recovered := true }] ∧ w' = ((w.setCell ⟨p, 0, none⟩ (.string ⟨#[]⟩)).setCell ⟨q, 0, none⟩ (.int .i64 0)).setCell ⟨r, 0, none⟩ (.int .i64 2) := by
  have hn : ∀ w : World, (binOp BinOp.neq 20 (.iface 30 (.int .i64 2)) .nilIface).run Tryd.prog w = .ok (.bool true) w := fun _ => rfl
  have ht : ∀ w : World, (Instr.typeAssert (.iface 30 (.int .i64 2)) 20 30 true).run Tryd.prog w = .ok (.tuple #[.int .i64 2, .bool true]) w := fun _ => rfl
  have c1 := blk_cell hp 0
  have f1 := blk_frozen hp 0
  have c2 := blk_cell hq 0
  have f2 := blk_frozen hq 0
  have c3 := blk_cell hr 0
  have f3 := blk_frozen hr 0
  simp only [List.getElem?_toArray, List.getElem?_cons_zero] at c1 c2 c3
  refine callsD_of_wpS Tryd.func65 rfl fun c₀ cs hu => ?_
  apply wpS_seq
  apply wpS_region
  simp [wpOpsS, go_sem, recoverD, hu, Tryd.ntmps65, Exit.thenS]
  refine wpS_of_wp ?_
  simp only [Array.replicate_succ, Array.replicate_zero, List.push_toArray, List.append_toArray, List.nil_append, List.cons_append, List.setIfInBounds_toArray, List.set_cons_succ, List.set_cons_zero]
  clear hu hp hq hr
  go_wp2
  exact ⟨rfl, _, rfl, _, results_none rfl _ _ _, rfl, rfl, rfl⟩
theorem threeJ (w : World) (o1 o2 o3 : Obj) : (((w.alloc o1).alloc o2).alloc o3).heap.size = w.heap.size + 1 + 1 + 1 ∧ (((w.alloc o1).alloc o2).alloc o3).heap[w.heap.size]? = some o1 ∧ (((w.alloc o1).alloc o2).alloc o3).heap[w.heap.size + 1]? = some o2 ∧
    (((w.alloc o1).alloc o2).alloc o3).heap[w.heap.size + 1 + 1]? = some o3 ∧ Below w.heap.size w (((w.alloc o1).alloc o2).alloc o3) := by
  have s1 : (w.alloc o1).heap.size = w.heap.size + 1 := Array.size_push ..
  have s2 : ((w.alloc o1).alloc o2).heap.size = w.heap.size + 1 + 1 := (Array.size_push ..).trans (by rw [s1])
  have s3 : (((w.alloc o1).alloc o2).alloc o3).heap.size = w.heap.size + 1 + 1 + 1 := (Array.size_push ..).trans (by rw [s2])
  refine ⟨s3, blk_alloc (blk_alloc (blk_new w o1) o2) o3, ?_, ?_, below_alloc (below_alloc (below_alloc (Below.refl _ _) o1) o2) o3⟩
  · have h := blk_alloc (blk_new (w.alloc o1) o2) o3
    rw [s1] at h
    exact h
  · have h := blk_new ((w.alloc o1).alloc o2) o3
    rw [s2] at h
    exact h
theorem fail_cells (w W : World) (s0 : ByteArray) (n0 e0 : Int) (hp : W.heap[w.heap.size]? = some (.cells #[.string s0] 9 (0, 0))) (hq : W.heap[w.heap.size + 1]? = some (.cells #[.int .i64 n0] 3 (0, 0))) (hr : W.heap[w.heap.size + 1 + 1]? = some (.cells #[.int .i64 e0] 30 (0, 0))) (hb : Below w.heap.size w W)
    (s1 : ByteArray) (n1 e1 : Int) (W' : World) (h : W' = ((W.setCell ⟨w.heap.size, 0, none⟩ (.string s1)).setCell ⟨w.heap.size + 1, 0, none⟩ (.int .i64 n1)).setCell ⟨w.heap.size + 1 + 1, 0, none⟩ (.int .i64 e1)) :
    W'.cell? ⟨w.heap.size, 0, none⟩ = some (.string s1) ∧ W'.cell? ⟨w.heap.size + 1, 0, none⟩ = some (.int .i64 n1) ∧ W'.cell? ⟨w.heap.size + 1 + 1, 0, none⟩ = some (.int .i64 e1) ∧ Below w.heap.size w W' := by
  have p1 := blk_put hp 0 (.string s1) rfl
  have q1 := blk_far hq (p := ⟨w.heap.size, 0, none⟩) (by simp) (.string s1)
  have r1 := blk_far hr (p := ⟨w.heap.size, 0, none⟩) (by simp; omega) (.string s1)
  have p2 := blk_far p1 (p := ⟨w.heap.size + 1, 0, none⟩) (by simp) (.int .i64 n1)
  have q2 := blk_put q1 0 (.int .i64 n1) rfl
  have r2 := blk_far r1 (p := ⟨w.heap.size + 1, 0, none⟩) (by simp) (.int .i64 n1)
  have p3 := blk_far p2 (p := ⟨w.heap.size + 1 + 1, 0, none⟩) (by simp; omega) (.int .i64 e1)
  have q3 := blk_far q2 (p := ⟨w.heap.size + 1 + 1, 0, none⟩) (by simp) (.int .i64 e1)
  have r3 := blk_put r2 0 (.int .i64 e1) rfl
  rw [← h] at p3 q3 r3
  have c1 := blk_cell p3 0
  have c2 := blk_cell q3 0
  have c3 := blk_cell r3 0
  refine ⟨c1, c2, c3, ?_⟩
  rw [h]
  exact ((hb.setCell (p := ⟨w.heap.size, 0, none⟩) (Nat.le_refl _) _).setCell (p := ⟨w.heap.size + 1, 0, none⟩) (by simp) _).setCell (p := ⟨w.heap.size + 1 + 1, 0, none⟩) (by simp; omega) _
set_option maxHeartbeats 2000000 in
set_option maxRecDepth 100000 in
theorem unq_c (s : ByteArray) (at_ : Nat) (w : World) (hT : Tabs w) (hs : s.size ≤ 1000000) (hat : at_ < s.size) (hq : bn s at_ = 34) :
    Calls Tryd.prog 40 #[.string s, .int .i64 at_] w fun e w' => (∃ (l : List UInt8) (j : Nat), textR s (s.size + 1 - (at_ + 1)) (at_ + 1) [] = some (l, j) ∧ e = .returned (.tuple #[.string ⟨l.toArray⟩, .int .i64 j, .int .i64 0]) ∧ Below w.heap.size w w')
      ∨ (textR s (s.size + 1 - (at_ + 1)) (at_ + 1) [] = none ∧ e = .returned (.tuple #[.string ⟨#[]⟩, .int .i64 0, .int .i64 2]) ∧ Below w.heap.size w w') := by
  have hmf : ∀ (fn : Fn) (first cap : Array Value) (w : World), (Instr.makeFunc fn first cap).run Tryd.prog w = .ok (.func fn first cap) w := fun _ _ _ _ => rfl
  have n1 : decide ((at_ : Int) < 0) = false := decide_eq_false (by omega)
  have n2 : decide ((at_ : Int) ≥ (s.size : Int)) = false := decide_eq_false (by omega)
  have n3 : decide ((s.size : Int) ≤ (at_ : Int)) = false := decide_eq_false (by omega)
  have n4 : decide (s.size ≤ at_) = false := decide_eq_false (by omega)
  have b1 : (0 : Int) ≤ (at_ : Int) := by omega
  have b2 : (at_ : Int) < (s.size : Int) := by omega
  obtain ⟨h3s, hp, hq1, hr, hb3⟩ := threeJ w (.cells #[.string ⟨#[]⟩] 9) (.cells #[.int .i64 0] 3) (.cells #[.int .i64 0] 30)
  obtain ⟨o, ho⟩ : ∃ o, textR s (s.size + 1 - (at_ + 1)) (at_ + 1) [] = o := ⟨_, rfl⟩
  have HX : ∀ w3 : World, w3.heap.size = w.heap.size + 1 + 1 + 1 → Below w.heap.size w w3 → Calls Tryd.prog 66 #[.pointer (some ⟨w.heap.size + 1 + 1 + 1, 0, none⟩)] (w3.alloc (.cells #[.string s, .int .i64 ((at_ : Int) + 1), .pointer none, .slice none 0 0] 97)) fun e w' =>
      (∃ (l : List UInt8) (j : Nat), o = some (l, j) ∧ e = .returned (.string ⟨l.toArray⟩) ∧ Below w3.heap.size w3 w' ∧ w'.cell? ⟨w.heap.size + 1 + 1 + 1, 1, none⟩ = some (.int .i64 j)) ∨ (o = none ∧ e = .panicked ThrownJ ∧ Below w3.heap.size w3 w') := by
    intro w3 hsz hbl
    rw [← ho]
    refine text_c w3 _ (w.heap.size + 1 + 1 + 1) s (at_ + 1) (tabs_below hT hbl) hs (by omega) ⟨(Below.refl _ _).alloc (Nat.le_refl _) _, #[.string s, .int .i64 ((at_ : Int) + 1), .pointer none, .slice none 0 0], ⟨by omega, ?_, .inl rfl, _, rfl, own_nil _ _ _ _⟩, rfl, rfl, rfl⟩
    have h := blk_new w3 (.cells #[.string s, .int .i64 ((at_ : Int) + 1), .pointer none, .slice none 0 0] 97)
    rw [hsz] at h
    exact h
  rw [ho]
  rw [bn_get s at_ hat] at hq
  replace HX := Aside0.mk (HX _ h3s hb3)
  have HP := Aside0.mk hp
  have HQ := Aside0.mk hq1
  have HR := Aside0.mk hr
  have HB := Aside0.mk hb3
  have H3 := Aside0.mk h3s
  clear hT ho h3s hp hq1 hr hb3
  go_enter_defers Tryd.func40, Tryd.ntmps40
  go_wp2_with fail
  generalize ((w.alloc (.cells #[.string ⟨#[]⟩] 9)).alloc (.cells #[.int .i64 0] 3)).alloc (.cells #[.int .i64 0] 30) = w3 at *
  refine HX.out.mono ?_
  rintro e w5 (⟨l, j, hl, rfl, hb, hc1⟩ | ⟨hn, rfl, hb⟩)
  · have hp5 := (hb.block _ (by rw [H3.out]; omega)).trans HP.out
    have hq5 := (hb.block _ (by rw [H3.out]; omega)).trans HQ.out
    have hr5 := (hb.block _ (by rw [H3.out]; omega)).trans HR.out
    have f1 := blk_frozen hp5 0
    have k1 := blk_cell hp5 0
    simp only [List.getElem?_toArray, List.getElem?_cons_zero] at k1
    have hB5 := HB.out.trans (hb.mono HB.out.size)
    have p6 : (w5.setCell ⟨w.heap.size, 0, none⟩ (.string ⟨l.toArray⟩)).heap[w.heap.size]? = some (.cells #[.string ⟨l.toArray⟩] 9 (0, 0)) := blk_put hp5 0 (.string ⟨l.toArray⟩) rfl
    have q6 := blk_far hq5 (p := ⟨w.heap.size, 0, none⟩) (by simp) (.string ⟨l.toArray⟩)
    have r6 := blk_far hr5 (p := ⟨w.heap.size, 0, none⟩) (by simp; omega) (.string ⟨l.toArray⟩)
    have g6 := (World.cell?_of_block (a := ⟨w.heap.size + 1 + 1 + 1, 1, none⟩) (Below.heap_setCell w5 ⟨w.heap.size, 0, none⟩ (.string ⟨l.toArray⟩) (w.heap.size + 1 + 1 + 1) (by simp; omega))).trans hc1
    have B6 := hB5.setCell (p := ⟨w.heap.size, 0, none⟩) (Nat.le_refl _) (.string ⟨l.toArray⟩)
    go_wp2
    clear hb hp5 hq5 hr5 hB5 f1 k1 hc1 HX HP HQ HR HB H3
    generalize w5.setCell ⟨w.heap.size, 0, none⟩ (.string ⟨l.toArray⟩) = w6 at *
    generalize hls : (⟨l.toArray⟩ : ByteArray) = t at *
    have d1 := blk_cell (blk_drew p6) 0
    have d2 : w6.drew.cell? ⟨w.heap.size + 1 + 1 + 1, 1, none⟩ = some (.int .i64 j) := g6
    have e1 := blk_frozen (blk_drew p6) 0
    have e2 := blk_frozen (blk_drew q6) 0
    have e3 := blk_frozen (blk_drew r6) 0
    have d3 := (World.cell?_of_block (a := ⟨w.heap.size + 1 + 1 + 1, 1, none⟩) (Below.heap_setCell w6.drew ⟨w.heap.size, 0, none⟩ (.string t) (w.heap.size + 1 + 1 + 1) (by simp; omega))).trans d2
    have q7 := blk_far (blk_drew q6) (p := ⟨w.heap.size, 0, none⟩) (by simp) (.string t)
    have r7 := blk_far (blk_drew r6) (p := ⟨w.heap.size, 0, none⟩) (by simp; omega) (.string t)
    have e4 := blk_frozen q7 0
    have e5 := blk_frozen r7 0
    have e6 := blk_frozen (blk_far r7 (p := ⟨w.heap.size + 1, 0, none⟩) (by simp) (.int .i64 j)) 0
    have HFC := Aside0.mk (fun W' h => fail_cells w w6.drew _ _ _ (blk_drew p6) (blk_drew q6) (blk_drew r6) (Below.drew B6) t j 0 W' h)
    have k1 := blk_cell p6 0
    have k2 := blk_cell q6 0
    have k3 := blk_cell r6 0
    have z1 := blk_frozen p6 0
    have z2 := blk_frozen q6 0
    have z3 := blk_frozen r6 0
    have k4 := g6
    simp only [List.getElem?_toArray, List.getElem?_cons_zero] at d1 k1 k2 k3
    clear p6 q6 r6 q7 r7 B6 g6
    go_region
    go_wp2
    generalize hW : (((w6.setCell ⟨w.heap.size, 0, none⟩ (.string t)).setCell ⟨w.heap.size + 1, 0, none⟩ (.int .i64 j)).setCell ⟨w.heap.size + 1 + 1, 0, none⟩ (.int .i64 0)).drew = W9
    obtain ⟨x1, x2, x3, x4⟩ := HFC.out W9 (by rw [← hW]; rfl)
    clear HFC
    refine leaves_cons (f := 65) (args := #[.pointer (some ⟨w.heap.size, 0, none⟩), .pointer (some ⟨w.heap.size + 1, 0, none⟩), .pointer (some ⟨w.heap.size + 1 + 1, 0, none⟩)]) (by simp) (by simp [go_sem]) ?_
    refine (unq1_idle _ _ _ _).mono ?_
    rintro e u' w'' ⟨rfl, rfl, rfl⟩
    simp [Leaves, settle, results, Tryd.results40, go_sem, x1, x2, x3]
    exact ⟨l, j, hl, ⟨hls.symm, rfl⟩, x4⟩
  · have hp5 := (hb.block _ (by rw [H3.out]; omega)).trans HP.out
    have hq5 := (hb.block _ (by rw [H3.out]; omega)).trans HQ.out
    have hr5 := (hb.block _ (by rw [H3.out]; omega)).trans HR.out
    have hB5 := HB.out.trans (hb.mono HB.out.size)
    refine leaves_cons (f := 65) (args := #[.pointer (some ⟨w.heap.size, 0, none⟩), .pointer (some ⟨w.heap.size + 1, 0, none⟩), .pointer (some ⟨w.heap.size + 1 + 1, 0, none⟩)]) (by simp) (by simp [go_sem]) ?_
    refine (unq1_thrown _ _ _ _ _ _ _ hp5 hq5 hr5 (by omega) (by omega) (by omega)).mono ?_
    rintro e u' w'' ⟨rfl, rfl, he⟩
    obtain ⟨x1, x2, x3, x4⟩ := fail_cells w w5 _ _ _ hp5 hq5 hr5 hB5 _ _ _ w'' he
    simp [Leaves, settle, results, Tryd.results40, go_sem, x1, x2, x3]
    exact ⟨hn, x4⟩
set_option maxHeartbeats 2000000 in
set_option maxRecDepth 100000 in
theorem unq_bad (s : ByteArray) (at_ : Int) (w : World) (h : at_ < 0 ∨ (s.size : Int) ≤ at_ ∨ (0 ≤ at_ ∧ at_ < s.size ∧ bn s at_.toNat ≠ 34)) :
    Calls Tryd.prog 40 #[.string s, .int .i64 at_] w fun e w' => e = .returned (.tuple #[.string ⟨#[]⟩, .int .i64 0, .int .i64 2]) ∧ Below w.heap.size w w' := by
  have hmf : ∀ (fn : Fn) (first cap : Array Value) (w : World), (Instr.makeFunc fn first cap).run Tryd.prog w = .ok (.func fn first cap) w := fun _ _ _ _ => rfl
  obtain ⟨h3s, hp, hq1, hr, hb3⟩ := threeJ w (.cells #[.string ⟨#[]⟩] 9) (.cells #[.int .i64 0] 3) (.cells #[.int .i64 0] 30)
  have HP := Aside0.mk hp
  have HQ := Aside0.mk hq1
  have HR := Aside0.mk hr
  have HB := Aside0.mk hb3
  clear h3s hp hq1 hr hb3
  by_cases h0 : at_ < 0
  · have n1 : decide (at_ < 0) = true := decide_eq_true h0
    clear h
    go_enter_defers Tryd.func40, Tryd.ntmps40
    go_wp2
    change bodyPostD Tryd.prog Tryd.f40 _ (Exit.panic ThrownJ) _ _
    generalize ((w.alloc (.cells #[.string ⟨#[]⟩] 9)).alloc (.cells #[.int .i64 0] 3)).alloc (.cells #[.int .i64 0] 30) = w3 at *
    refine leaves_cons (f := 65) (args := #[.pointer (some ⟨w.heap.size, 0, none⟩), .pointer (some ⟨w.heap.size + 1, 0, none⟩), .pointer (some ⟨w.heap.size + 1 + 1, 0, none⟩)]) (by simp) (by simp [go_sem]) ?_
    refine (unq1_thrown _ _ _ _ _ _ _ HP.out HQ.out HR.out (by omega) (by omega) (by omega)).mono ?_
    rintro e u' w'' ⟨rfl, rfl, he⟩
    obtain ⟨x1, x2, x3, x4⟩ := fail_cells w w3 _ _ _ HP.out HQ.out HR.out HB.out _ _ _ w'' he
    simp [Leaves, settle, results, Tryd.results40, go_sem, x1, x2, x3]
    exact x4
  · have n1 : decide (at_ < 0) = false := decide_eq_false h0
    by_cases h1 : (s.size : Int) ≤ at_
    · have n2 : decide (at_ ≥ (s.size : Int)) = true := decide_eq_true (by omega)
      have n3 : decide ((s.size : Int) ≤ at_) = true := decide_eq_true (by omega)
      clear h
      go_enter_defers Tryd.func40, Tryd.ntmps40
      go_wp2
      change bodyPostD Tryd.prog Tryd.f40 _ (Exit.panic ThrownJ) _ _
      generalize ((w.alloc (.cells #[.string ⟨#[]⟩] 9)).alloc (.cells #[.int .i64 0] 3)).alloc (.cells #[.int .i64 0] 30) = w3 at *
      refine leaves_cons (f := 65) (args := #[.pointer (some ⟨w.heap.size, 0, none⟩), .pointer (some ⟨w.heap.size + 1, 0, none⟩), .pointer (some ⟨w.heap.size + 1 + 1, 0, none⟩)]) (by simp) (by simp [go_sem]) ?_
      refine (unq1_thrown _ _ _ _ _ _ _ HP.out HQ.out HR.out (by omega) (by omega) (by omega)).mono ?_
      rintro e u' w'' ⟨rfl, rfl, he⟩
      obtain ⟨x1, x2, x3, x4⟩ := fail_cells w w3 _ _ _ HP.out HQ.out HR.out HB.out _ _ _ w'' he
      simp [Leaves, settle, results, Tryd.results40, go_sem, x1, x2, x3]
      exact x4
    · have n2 : decide (at_ ≥ (s.size : Int)) = false := decide_eq_false (by omega)
      have n3 : decide ((s.size : Int) ≤ at_) = false := decide_eq_false (by omega)
      obtain ⟨h2, h3, h4⟩ : 0 ≤ at_ ∧ at_ < s.size ∧ bn s at_.toNat ≠ 34 := by
        rcases h with h | h | h
        · exact absurd h h0
        · exact absurd h h1
        · exact h
      obtain ⟨a, rfl⟩ : ∃ a : Nat, at_ = a := ⟨at_.toNat, by omega⟩
      rw [Int.toNat_natCast, bn_get s a (by omega)] at h4
      have b1 : (0 : Int) ≤ (a : Int) := by omega
      have b2 : (a : Int) < (s.size : Int) := by omega
      have b3 : a < s.size := by omega
      have m1 : (((s[a]'b3).toNat : Int) == 34) = false := beq_eq_false_iff_ne.2 (by omega)
      have m2 : (((s[a]'b3).toNat : Int) != 34) = true := by simp; omega
      have m3 : decide (((s[a]'b3).toNat : Int) = 34) = false := decide_eq_false (by omega)
      clear h
      go_enter_defers Tryd.func40, Tryd.ntmps40
      go_wp2
      change bodyPostD Tryd.prog Tryd.f40 _ (Exit.panic ThrownJ) _ _
      generalize ((w.alloc (.cells #[.string ⟨#[]⟩] 9)).alloc (.cells #[.int .i64 0] 3)).alloc (.cells #[.int .i64 0] 30) = w3 at *
      refine leaves_cons (f := 65) (args := #[.pointer (some ⟨w.heap.size, 0, none⟩), .pointer (some ⟨w.heap.size + 1, 0, none⟩), .pointer (some ⟨w.heap.size + 1 + 1, 0, none⟩)]) (by simp) (by simp [go_sem]) ?_
      refine (unq1_thrown _ _ _ _ _ _ _ HP.out HQ.out HR.out (by omega) (by omega) (by omega)).mono ?_
      rintro e u' w'' ⟨rfl, rfl, he⟩
      obtain ⟨x1, x2, x3, x4⟩ := fail_cells w w3 _ _ _ HP.out HQ.out HR.out HB.out _ _ _ w'' he
      simp [Leaves, settle, results, Tryd.results40, go_sem, x1, x2, x3]
      exact x4
def unqU (s : ByteArray) (at_ : Int) : ByteArray × Int × Int :=
  if at_ < 0 ∨ (s.size : Int) ≤ at_ ∨ bn s at_.toNat ≠ 34 then (⟨#[]⟩, 0, 2)
  else match textR s (s.size - at_.toNat) (at_.toNat + 1) [] with
    | some (l, j) => (⟨l.toArray⟩, (j : Int), 0)
    | none => (⟨#[]⟩, 0, 2)
theorem unquote_calls (s : ByteArray) (at_ : Int) (w : World) (hT : Tabs w) (hs : s.size ≤ 1000000) :
    Calls Tryd.prog 40 #[.string s, .int .i64 at_] w fun e w' => e = .returned (.tuple #[.string (unqU s at_).1, .int .i64 (unqU s at_).2.1, .int .i64 (unqU s at_).2.2]) ∧ Below w.heap.size w w' := by
  by_cases h : at_ < 0 ∨ (s.size : Int) ≤ at_ ∨ bn s at_.toNat ≠ 34
  · have e : unqU s at_ = (⟨#[]⟩, 0, 2) := by rw [unqU, if_pos h]
    rw [e]
    refine unq_bad s at_ w ?_
    by_cases h0 : at_ < 0
    · exact .inl h0
    · by_cases h1 : (s.size : Int) ≤ at_
      · exact .inr (.inl h1)
      · refine .inr (.inr ⟨by omega, by omega, ?_⟩)
        rcases h with h | h | h
        · exact absurd h h0
        · exact absurd h h1
        · exact h
  · have e0 : unqU s at_ = match textR s (s.size - at_.toNat) (at_.toNat + 1) [] with
      | some (l, j) => (⟨l.toArray⟩, (j : Int), 0)
      | none => (⟨#[]⟩, 0, 2) := by rw [unqU, if_neg h]
    obtain ⟨a, rfl⟩ : ∃ a : Nat, at_ = a := ⟨at_.toNat, by omega⟩
    rw [Int.toNat_natCast] at e0 h
    have h34 : bn s a = 34 := Decidable.byContradiction fun hh => h (.inr (.inr hh))
    refine (unq_c s a w hT hs (by omega) h34).mono ?_
    rw [show s.size + 1 - (a + 1) = s.size - a by omega]
    rintro e w' (⟨l, j, h1, rfl, hb⟩ | ⟨h1, rfl, hb⟩)
    · rw [e0, h1]; exact ⟨rfl, hb⟩
    · rw [e0, h1]; exact ⟨rfl, hb⟩
end Go.Proofs.YtpamgedmgjfjjaaDoor.M
end
section
namespace Go.Proofs.YtpamgedmgjfjjaaDoor.M
open Go.RowKit Go.Proofs.YtpamgedmgjfjjaaDoorW.PrintWords Go.Proofs.YtpamgedmgjfjjaaDoorW.PrintLast Go.Proofs.YtpamgedmgjfjjaaDoorW.PrintMore
open Go.Lib (byteCells byteCells_length strCells strCells_length cell_of_heap frozen_of_heap ownBlock_ne alloc_old)
set_option linter.unusedVariables false
set_option linter.unusedSimpArgs false
def hexB (d : Nat) : UInt8 := if d < 10 then UInt8.ofNat (48 + d) else UInt8.ofNat (87 + d)
def escB (c : Nat) : ByteArray :=
  if c = 34 then ⟨#[92, 34]⟩ else if c = 92 then ⟨#[92, 92]⟩ else if c = 8 then ⟨#[92, 98]⟩ else if c = 9 then ⟨#[92, 116]⟩ else if c = 10 then ⟨#[92, 110]⟩
  else if c = 12 then ⟨#[92, 102]⟩ else if c = 13 then ⟨#[92, 114]⟩ else if c < 32 then ⟨#[92, 117, 48, 48, hexB (c / 16), hexB (c % 16)]⟩ else ⟨#[]⟩
set_option maxHeartbeats 8000000 in
set_option maxRecDepth 100000 in
theorem escaped_low (c : Nat) (h : c < 32) (h3 : c ≠ 8) (h4 : c ≠ 9) (h5 : c ≠ 10) (h6 : c ≠ 12) (h7 : c ≠ 13) (w : World) :
    Calls Tryd.prog 69 #[.int .u8 c] w fun e w' => e = .returned (.string (escB c)) ∧ Below w.heap.size w w' := by
  have hb : ∀ n, Below w.heap.size w (w.drewN n) := fun n => (Below.refl _ _).trans ⟨rfl, rfl, rfl, Nat.le_refl _, fun _ _ => rfl⟩
  have hv : c = 0 ∨ c = 1 ∨ c = 2 ∨ c = 3 ∨ c = 4 ∨ c = 5 ∨ c = 6 ∨ c = 7 ∨ c = 11 ∨ c = 14 ∨ c = 15 ∨ c = 16 ∨ c = 17 ∨ c = 18 ∨ c = 19 ∨ c = 20 ∨ c = 21 ∨ c = 22 ∨ c = 23 ∨ c = 24 ∨ c = 25 ∨ c = 26 ∨ c = 27 ∨ c = 28 ∨ c = 29 ∨ c = 30 ∨ c = 31 := by omega
  clear h h3 h4 h5 h6 h7
  rcases hv with rfl | rfl | rfl | rfl | rfl | rfl | rfl | rfl | rfl | rfl | rfl | rfl | rfl | rfl | rfl | rfl | rfl | rfl | rfl | rfl | rfl | rfl | rfl | rfl | rfl | rfl | rfl
  · have e : escB 0 = ⟨#[92, 117, 48, 48, 48, 48]⟩ := by kernel_rfl
    rw [e]
    go_enter Tryd.func69, Tryd.ntmps69
    go_wp2
    go_quiet (fail)
    go_wp2
    go_ret
    exact ⟨by kernel_rfl, hb _⟩
  · have e : escB 1 = ⟨#[92, 117, 48, 48, 48, 49]⟩ := by kernel_rfl
    rw [e]
    go_enter Tryd.func69, Tryd.ntmps69
    go_wp2
    go_quiet (fail)
    go_wp2
    go_ret
    exact ⟨by kernel_rfl, hb _⟩
  · have e : escB 2 = ⟨#[92, 117, 48, 48, 48, 50]⟩ := by kernel_rfl
    rw [e]
    go_enter Tryd.func69, Tryd.ntmps69
    go_wp2
    go_quiet (fail)
    go_wp2
    go_ret
    exact ⟨by kernel_rfl, hb _⟩
  · have e : escB 3 = ⟨#[92, 117, 48, 48, 48, 51]⟩ := by kernel_rfl
    rw [e]
    go_enter Tryd.func69, Tryd.ntmps69
    go_wp2
    go_quiet (fail)
    go_wp2
    go_ret
    exact ⟨by kernel_rfl, hb _⟩
  · have e : escB 4 = ⟨#[92, 117, 48, 48, 48, 52]⟩ := by kernel_rfl
    rw [e]
    go_enter Tryd.func69, Tryd.ntmps69
    go_wp2
    go_quiet (fail)
    go_wp2
    go_ret
    exact ⟨by kernel_rfl, hb _⟩
  · have e : escB 5 = ⟨#[92, 117, 48, 48, 48, 53]⟩ := by kernel_rfl
    rw [e]
    go_enter Tryd.func69, Tryd.ntmps69
    go_wp2
    go_quiet (fail)
    go_wp2
    go_ret
    exact ⟨by kernel_rfl, hb _⟩
  · have e : escB 6 = ⟨#[92, 117, 48, 48, 48, 54]⟩ := by kernel_rfl
    rw [e]
    go_enter Tryd.func69, Tryd.ntmps69
    go_wp2
    go_quiet (fail)
    go_wp2
    go_ret
    exact ⟨by kernel_rfl, hb _⟩
  · have e : escB 7 = ⟨#[92, 117, 48, 48, 48, 55]⟩ := by kernel_rfl
    rw [e]
    go_enter Tryd.func69, Tryd.ntmps69
    go_wp2
    go_quiet (fail)
    go_wp2
    go_ret
    exact ⟨by kernel_rfl, hb _⟩
  · have e : escB 11 = ⟨#[92, 117, 48, 48, 48, 98]⟩ := by kernel_rfl
    rw [e]
    go_enter Tryd.func69, Tryd.ntmps69
    go_wp2
    go_quiet (fail)
    go_wp2
    go_ret
    exact ⟨by kernel_rfl, hb _⟩
  · have e : escB 14 = ⟨#[92, 117, 48, 48, 48, 101]⟩ := by kernel_rfl
    rw [e]
    go_enter Tryd.func69, Tryd.ntmps69
    go_wp2
    go_quiet (fail)
    go_wp2
    go_ret
    exact ⟨by kernel_rfl, hb _⟩
  · have e : escB 15 = ⟨#[92, 117, 48, 48, 48, 102]⟩ := by kernel_rfl
    rw [e]
    go_enter Tryd.func69, Tryd.ntmps69
    go_wp2
    go_quiet (fail)
    go_wp2
    go_ret
    exact ⟨by kernel_rfl, hb _⟩
  · have e : escB 16 = ⟨#[92, 117, 48, 48, 49, 48]⟩ := by kernel_rfl
    rw [e]
    go_enter Tryd.func69, Tryd.ntmps69
    go_wp2
    go_quiet (fail)
    go_wp2
    go_ret
    exact ⟨by kernel_rfl, hb _⟩
  · have e : escB 17 = ⟨#[92, 117, 48, 48, 49, 49]⟩ := by kernel_rfl
    rw [e]
    go_enter Tryd.func69, Tryd.ntmps69
    go_wp2
    go_quiet (fail)
    go_wp2
    go_ret
    exact ⟨by kernel_rfl, hb _⟩
  · have e : escB 18 = ⟨#[92, 117, 48, 48, 49, 50]⟩ := by kernel_rfl
    rw [e]
    go_enter Tryd.func69, Tryd.ntmps69
    go_wp2
    go_quiet (fail)
    go_wp2
    go_ret
    exact ⟨by kernel_rfl, hb _⟩
  · have e : escB 19 = ⟨#[92, 117, 48, 48, 49, 51]⟩ := by kernel_rfl
    rw [e]
    go_enter Tryd.func69, Tryd.ntmps69
    go_wp2
    go_quiet (fail)
    go_wp2
    go_ret
    exact ⟨by kernel_rfl, hb _⟩
  · have e : escB 20 = ⟨#[92, 117, 48, 48, 49, 52]⟩ := by kernel_rfl
    rw [e]
    go_enter Tryd.func69, Tryd.ntmps69
    go_wp2
    go_quiet (fail)
    go_wp2
    go_ret
    exact ⟨by kernel_rfl, hb _⟩
  · have e : escB 21 = ⟨#[92, 117, 48, 48, 49, 53]⟩ := by kernel_rfl
    rw [e]
    go_enter Tryd.func69, Tryd.ntmps69
    go_wp2
    go_quiet (fail)
    go_wp2
    go_ret
    exact ⟨by kernel_rfl, hb _⟩
  · have e : escB 22 = ⟨#[92, 117, 48, 48, 49, 54]⟩ := by kernel_rfl
    rw [e]
    go_enter Tryd.func69, Tryd.ntmps69
    go_wp2
    go_quiet (fail)
    go_wp2
    go_ret
    exact ⟨by kernel_rfl, hb _⟩
  · have e : escB 23 = ⟨#[92, 117, 48, 48, 49, 55]⟩ := by kernel_rfl
    rw [e]
    go_enter Tryd.func69, Tryd.ntmps69
    go_wp2
    go_quiet (fail)
    go_wp2
    go_ret
    exact ⟨by kernel_rfl, hb _⟩
  · have e : escB 24 = ⟨#[92, 117, 48, 48, 49, 56]⟩ := by kernel_rfl
    rw [e]
    go_enter Tryd.func69, Tryd.ntmps69
    go_wp2
    go_quiet (fail)
    go_wp2
    go_ret
    exact ⟨by kernel_rfl, hb _⟩
  · have e : escB 25 = ⟨#[92, 117, 48, 48, 49, 57]⟩ := by kernel_rfl
    rw [e]
    go_enter Tryd.func69, Tryd.ntmps69
    go_wp2
    go_quiet (fail)
    go_wp2
    go_ret
    exact ⟨by kernel_rfl, hb _⟩
  · have e : escB 26 = ⟨#[92, 117, 48, 48, 49, 97]⟩ := by kernel_rfl
    rw [e]
    go_enter Tryd.func69, Tryd.ntmps69
    go_wp2
    go_quiet (fail)
    go_wp2
    go_ret
    exact ⟨by kernel_rfl, hb _⟩
  · have e : escB 27 = ⟨#[92, 117, 48, 48, 49, 98]⟩ := by kernel_rfl
    rw [e]
    go_enter Tryd.func69, Tryd.ntmps69
    go_wp2
    go_quiet (fail)
    go_wp2
    go_ret
    exact ⟨by kernel_rfl, hb _⟩
  · have e : escB 28 = ⟨#[92, 117, 48, 48, 49, 99]⟩ := by kernel_rfl
    rw [e]
    go_enter Tryd.func69, Tryd.ntmps69
    go_wp2
    go_quiet (fail)
    go_wp2
    go_ret
    exact ⟨by kernel_rfl, hb _⟩
  · have e : escB 29 = ⟨#[92, 117, 48, 48, 49, 100]⟩ := by kernel_rfl
    rw [e]
    go_enter Tryd.func69, Tryd.ntmps69
    go_wp2
    go_quiet (fail)
    go_wp2
    go_ret
    exact ⟨by kernel_rfl, hb _⟩
  · have e : escB 30 = ⟨#[92, 117, 48, 48, 49, 101]⟩ := by kernel_rfl
    rw [e]
    go_enter Tryd.func69, Tryd.ntmps69
    go_wp2
    go_quiet (fail)
    go_wp2
    go_ret
    exact ⟨by kernel_rfl, hb _⟩
  · have e : escB 31 = ⟨#[92, 117, 48, 48, 49, 102]⟩ := by kernel_rfl
    rw [e]
    go_enter Tryd.func69, Tryd.ntmps69
    go_wp2
    go_quiet (fail)
    go_wp2
    go_ret
    exact ⟨by kernel_rfl, hb _⟩
set_option maxHeartbeats 2000000 in
set_option maxRecDepth 100000 in
theorem escaped_calls (c : Nat) (hc : c < 256) (w : World) :
    Calls Tryd.prog 69 #[.int .u8 c] w fun e w' => e = .returned (.string (escB c)) ∧ Below w.heap.size w w' := by
  have hc1 : ∀ w : World, (convert 21 9 (.int .i32 34)).run Tryd.prog w = .ok (.string ⟨#[34]⟩) w := fun _ => by kernel_rfl
  have hc2 : ∀ w : World, (convert 21 9 (.int .i32 92)).run Tryd.prog w = .ok (.string ⟨#[92]⟩) w := fun _ => by kernel_rfl
  by_cases c1 : c = 34
  · subst c1
    go_enter Tryd.func69, Tryd.ntmps69
    go_wp2
    go_ret
    exact ⟨rfl, Below.refl _ _⟩
  by_cases c2 : c = 92
  · subst c2
    go_enter Tryd.func69, Tryd.ntmps69
    go_wp2
    go_ret
    exact ⟨rfl, Below.refl _ _⟩
  by_cases c3 : c = 8
  · subst c3
    go_enter Tryd.func69, Tryd.ntmps69
    go_wp2
    go_ret
    exact ⟨rfl, Below.refl _ _⟩
  by_cases c4 : c = 9
  · subst c4
    go_enter Tryd.func69, Tryd.ntmps69
    go_wp2
    go_ret
    exact ⟨rfl, Below.refl _ _⟩
  by_cases c5 : c = 10
  · subst c5
    go_enter Tryd.func69, Tryd.ntmps69
    go_wp2
    go_ret
    exact ⟨rfl, Below.refl _ _⟩
  by_cases c6 : c = 12
  · subst c6
    go_enter Tryd.func69, Tryd.ntmps69
    go_wp2
    go_ret
    exact ⟨rfl, Below.refl _ _⟩
  by_cases c7 : c = 13
  · subst c7
    go_enter Tryd.func69, Tryd.ntmps69
    go_wp2
    go_ret
    exact ⟨rfl, Below.refl _ _⟩
  have m1 : ((c : Int) == 34) = false := beq_eq_false_iff_ne.2 (by omega)
  have k1 : decide ((c : Int) = 34) = false := decide_eq_false (by omega)
  have m2 : ((c : Int) == 92) = false := beq_eq_false_iff_ne.2 (by omega)
  have k2 : decide ((c : Int) = 92) = false := decide_eq_false (by omega)
  have m3 : ((c : Int) == 8) = false := beq_eq_false_iff_ne.2 (by omega)
  have k3 : decide ((c : Int) = 8) = false := decide_eq_false (by omega)
  have m4 : ((c : Int) == 9) = false := beq_eq_false_iff_ne.2 (by omega)
  have k4 : decide ((c : Int) = 9) = false := decide_eq_false (by omega)
  have m5 : ((c : Int) == 10) = false := beq_eq_false_iff_ne.2 (by omega)
  have k5 : decide ((c : Int) = 10) = false := decide_eq_false (by omega)
  have m6 : ((c : Int) == 12) = false := beq_eq_false_iff_ne.2 (by omega)
  have k6 : decide ((c : Int) = 12) = false := decide_eq_false (by omega)
  have m7 : ((c : Int) == 13) = false := beq_eq_false_iff_ne.2 (by omega)
  have k7 : decide ((c : Int) = 13) = false := decide_eq_false (by omega)
  by_cases c8 : c < 32
  · exact escaped_low c c8 c3 c4 c5 c6 c7 w
  · have m8 : decide ((c : Int) < 32) = false := decide_eq_false (by omega)
    have e : escB c = ⟨#[]⟩ := by
      unfold escB
      rw [if_neg c1, if_neg c2, if_neg c3, if_neg c4, if_neg c5, if_neg c6, if_neg c7, if_neg c8]
    rw [e]
    go_enter Tryd.func69, Tryd.ntmps69
    go_wp2
    go_ret
    exact ⟨rfl, Below.refl _ _⟩
def escL (b : UInt8) : List UInt8 := if (escB b.toNat).size = 0 then [b] else (escB b.toNat).data.toList
def quoteL (l : List UInt8) : List UInt8 := l.flatMap escL
def quoteU (s : ByteArray) : ByteArray := if validU s s.size 0 = true then ⟨(34 :: (quoteL s.data.toList ++ [34])).toArray⟩ else ⟨#[]⟩
theorem escB_size (c : Nat) : (escB c).size ≤ 6 := by
  unfold escB
  repeat' split
  all_goals (first | decide | exact Nat.le_refl 6)
theorem escL_len (b : UInt8) : (escL b).length ≤ 6 := by
  unfold escL
  split
  · simp
  · have := escB_size b.toNat
    rw [data_length]; exact this
theorem quoteL_len (l : List UInt8) : (quoteL l).length ≤ 6 * l.length := by
  induction l with
  | nil => simp [quoteL]
  | cons a t ih =>
    have := escL_len a
    simp only [quoteL, List.flatMap_cons, List.length_append, List.length_cons] at *
    omega
theorem quoteL_take (l : List UInt8) (k : Nat) (x : UInt8) (h : l[k]? = some x) : quoteL (l.take (k + 1)) = quoteL (l.take k) ++ escL x := by
  rw [List.take_add_one, h]
  simp [quoteL]
theorem wb34 (b : Nat) (B : Nat) (cs : Array Value) (l : List UInt8) (w : World) (h : BAt 0 75 B b cs l w) (hn : cs.size = 2) (hl : l.length ≤ 10000000) (hB : B ≤ w.heap.size) :
    Calls Tryd.prog 68 #[.pointer (some ⟨b, 0, none⟩), .int .u8 34] w fun e w' => e = .returned .nilIface ∧ ∃ cs', BAt 0 75 B b cs' (l ++ [34]) w' ∧ cs'.size = 2 ∧ Below B w w' := by
  refine (writeByte_any 0 75 B b 2 cs l 34 w h hn (by decide) fit75 (by omega) hB).mono ?_
  rintro e w' ⟨rfl, v', hb, hbel⟩
  exact ⟨rfl, _, hb, by simp [hn], hbel⟩
theorem wbAny (b : Nat) (B : Nat) (cs : Array Value) (l : List UInt8) (c : UInt8) (w : World) (h : BAt 0 75 B b cs l w) (hn : cs.size = 2) (hl : l.length ≤ 10000000) (hB : B ≤ w.heap.size) :
    Calls Tryd.prog 68 #[.pointer (some ⟨b, 0, none⟩), .int .u8 c.toNat] w fun e w' => e = .returned .nilIface ∧ ∃ cs', BAt 0 75 B b cs' (l ++ [c]) w' ∧ cs'.size = 2 ∧ Below B w w' := by
  refine (writeByte_any 0 75 B b 2 cs l c w h hn (by decide) fit75 (by omega) hB).mono ?_
  rintro e w' ⟨rfl, v', hb, hbel⟩
  exact ⟨rfl, _, hb, by simp [hn], hbel⟩
theorem wsAny (b : Nat) (B : Nat) (cs : Array Value) (l : List UInt8) (t : ByteArray) (w : World) (h : BAt 0 75 B b cs l w) (hn : cs.size = 2) (hl : l.length ≤ 10000000) (ht : t.size ≤ 6) (hB : B ≤ w.heap.size) :
    Calls Tryd.prog 50 #[.pointer (some ⟨b, 0, none⟩), .string t] w fun e w' => e = .returned (.tuple #[.int .i64 t.size, .nilIface]) ∧ ∃ cs', BAt 0 75 B b cs' (l ++ t.data.toList) w' ∧ cs'.size = 2 ∧ Below B w w' := by
  refine (writeString_any 0 75 B b 2 cs l t w h hn (by decide) fit75 (by omega) hB).mono ?_
  rintro e w' ⟨rfl, v', hb, hbel⟩
  exact ⟨rfl, _, hb, by simp [hn], hbel⟩
set_option maxHeartbeats 4000000 in
set_option maxRecDepth 100000 in
theorem quote_calls (s : ByteArray) (w : World) (hT : Tabs w) (hs : s.size ≤ 1000000) :
    Calls Tryd.prog 42 #[.string s] w fun e w' => e = .returned (.string (quoteU s)) ∧ Below w.heap.size w w' := by
  have HS := Aside0.mk hs
  have HV := Aside0.mk (utf_Valid_calls s w hT)
  obtain ⟨o, ho⟩ : ∃ o, quoteU s = o := ⟨_, rfl⟩
  rw [ho]
  rw [quoteU] at ho
  have HO := Aside0.mk ho
  clear ho hT
  cases hv : validU s s.size 0 with
  | false =>
    rw [hv] at HV HO
    go_enter Tryd.func42, Tryd.ntmps42
    go_wp2_with (go_at_call 14; refine HV.out.mono ?_; rintro e w1 ⟨rfl, hb⟩)
    go_ret
    exact ⟨by rw [← HO.out]; rfl, hb⟩
  | true =>
    rw [hv, if_pos rfl] at HO
    rw [hv] at HV
    clear hv
    go_enter Tryd.func42, Tryd.ntmps42
    go_wp2_with fail
    refine HV.out.mono ?_
    rintro e w1 ⟨rfl, hb⟩
    have HB1 := Aside0.mk hb
    clear HV hb
    go_wp2_with fail
    have HBA : BAt 0 75 w1.heap.size w1.heap.size #[.pointer none, .slice none 0 0] [] (w1.alloc (.cells #[.pointer none, .slice none 0 0] 75)) :=
      ⟨Nat.le_refl _, blk_new w1 _, .inl rfl, _, rfl, own_nil _ _ _ _⟩
    have HBB := below_alloc (Below.refl w1.heap.size w1) (.cells #[.pointer none, .slice none 0 0] 75)
    refine (wb34 w1.heap.size w1.heap.size _ _ _ HBA rfl (by simp) HBB.size).mono ?_
    rintro e w2 ⟨rfl, cs, hba, hcs, hbel⟩
    have HA2 := Aside0.mk hba
    have HC2 := Aside0.mk hcs
    have HL2 := Aside0.mk (HBB.trans hbel)
    clear HBA HBB hba hcs hbel
    go_wp2
    go_loopw [12] (fun v12 wr => ∃ (k : Nat) (cs : Array Value), v12 = .int .i64 k ∧ Aside0 (k ≤ s.size) ∧ Aside0 (BAt 0 75 w1.heap.size w1.heap.size cs (34 :: quoteL (s.data.toList.take k)) wr) ∧ Aside0 (cs.size = 2) ∧ Aside0 (Below w1.heap.size w1 wr))
      (fun v12 wr => s.size - (RowKit.intOf v12).toNat)
    case atStart => exact ⟨0, cs, rfl, ⟨Nat.zero_le _⟩, ⟨by simpa [quoteL] using HA2.out⟩, HC2, HL2⟩
    case round =>
      clear HA2 HC2 HL2
      clear cs
      obtain ⟨k, cs, rfl, HK, HA, HC, HL⟩ := hrel
      have hlen := quoteL_len (s.data.toList.take k)
      rw [List.length_take] at hlen
      by_cases hk : k < s.size
      · have n1 : decide ((k : Int) < (s.size : Int)) = true := decide_eq_true (by omega)
        have b1 : (0 : Int) ≤ (k : Int) := by omega
        have b2 : (k : Int) < (s.size : Int) := by omega
        have HE := Aside0.mk (fun w3 => escaped_calls (s[k]'hk).toNat (s[k]'hk).toNat_lt w3)
        have HQ := Aside0.mk (quoteL_take s.data.toList k (s[k]'hk) (by rw [List.getElem?_eq_getElem (by rw [data_length]; exact hk)]; rfl))
        have HL6 := Aside0.mk (show (34 :: quoteL (s.data.toList.take k)).length ≤ 10000000 by simp only [List.length_cons]; omega)
        go_wp2_with fail
        refine (HE.out _).mono ?_
        rintro e w3 ⟨rfl, hb⟩
        have HA3 := Aside0.mk (HA.out.later hb)
        have HL3 := Aside0.mk (HL.out.trans (hb.mono HL.out.size))
        have h6 := escB_size (s[k]'hk).toNat
        by_cases hz : (escB (s[k]'hk).toNat).size = 0
        · have hq : escL (s[k]'hk) = [s[k]'hk] := by unfold escL; rw [if_pos hz]
          have he : escB (s[k]'hk).toNat = ⟨#[]⟩ := ba_eq _ _ (by
            have : (escB (s[k]'hk).toNat).data.toList.length = 0 := by rw [data_length]; exact hz
            rw [List.length_eq_zero_iff.1 this])
          rw [he]
          go_wp2_with fail
          refine (wbAny _ _ _ _ (s[k]'hk) _ HA3.out HC.out HL6.out HL3.out.size).mono ?_
          rintro e w4 ⟨rfl, cs', hba, hcs, hbel⟩
          go_wp2
          refine ⟨⟨k + 1, cs', rfl, ⟨by omega⟩, ⟨by rw [HQ.out, hq]; exact hba⟩, ⟨hcs⟩, ⟨HL3.out.trans hbel⟩⟩, ?_⟩
          simp [RowKit.intOf]
          omega
        · have hq : escL (s[k]'hk) = (escB (s[k]'hk).toNat).data.toList := by unfold escL; rw [if_neg hz]
          generalize escB (s[k]'hk).toNat = t at *
          have hs1 : t.toList = [] ↔ False := by
            rw [ByteArray.toList_eq]
            constructor
            · intro h
              have h0 : t.size = 0 := by rw [← data_length, h]; rfl
              omega
            · exact False.elim
          have hs2 : (t.toList == ([] : List UInt8)) = false := beq_eq_false_iff_ne.mpr (fun h => hs1.1 h)
          have hs3 : t.toList.isEmpty = false := by
            cases hh : t.toList with
            | nil => exact absurd hh (fun h => hs1.1 h)
            | cons a b => rfl
          go_wp2_with fail
          refine (wsAny _ _ _ _ t _ HA3.out HC.out HL6.out h6 HL3.out.size).mono ?_
          rintro e w4 ⟨rfl, cs', hba, hcs, hbel⟩
          go_wp2
          refine ⟨⟨k + 1, cs', rfl, ⟨by omega⟩, ⟨by rw [HQ.out, hq]; exact hba⟩, ⟨hcs⟩, ⟨HL3.out.trans hbel⟩⟩, ?_⟩
          simp [RowKit.intOf]
          omega
      · have n1 : decide ((k : Int) < (s.size : Int)) = false := decide_eq_false (by omega)
        have hks : k = s.size := by have := HK.out; omega
        have ht : s.data.toList.take k = s.data.toList := List.take_of_length_le (by rw [data_length]; omega)
        rw [ht] at HA
        have hl2 := quoteL_len s.data.toList
        rw [data_length] at hl2
        go_wp2_with fail
        refine (wb34 _ _ _ _ _ HA.out HC.out (by simp only [List.length_cons]; omega) HL.out.size).mono ?_
        rintro e w4 ⟨rfl, cs', hba, hcs, hbel⟩
        have HL4 := Aside0.mk (HL.out.trans hbel)
        go_wp2_with fail
        refine (string_any 0 75 _ _ _ _ _ hba HL4.out.size).mono ?_
        rintro e w5 ⟨rfl, hb⟩
        go_wp2
        go_ret
        refine ⟨?_, HB1.out.trans ((HL4.out.trans hb).mono HB1.out.size)⟩
        rw [← HO.out]
        rfl
end Go.Proofs.YtpamgedmgjfjjaaDoor.M
end
section
namespace Go.Proofs.YtpamgedmgjfjjaaDoor.M
open Go.RowKit Go.Proofs.YtpamgedmgjfjjaaDoorW.PrintWords Go.Proofs.YtpamgedmgjfjjaaDoorW.PrintLast Go.Proofs.YtpamgedmgjfjjaaDoorW.PrintMore
set_option linter.unusedVariables false
set_option linter.unusedSimpArgs false
set_option maxRecDepth 100000 in
theorem awake_unq : unqU ⟨#[34, 92, 117, 48, 48, 101, 57, 34, 120]⟩ 0 = (⟨#[195, 169]⟩, 8, 0) := by kernel_rfl
set_option maxRecDepth 100000 in
theorem awake_quote : quoteU ⟨#[97, 10, 98]⟩ = ⟨#[34, 97, 92, 110, 98, 34]⟩ := by kernel_rfl
set_option maxHeartbeats 2000000 in
set_option maxRecDepth 100000 in
theorem awake07_calls (w : World) (hT : Tabs w) : Calls Tryd.prog 39 #[] w fun e w' => e = .returned (.bool true) ∧ Below w.heap.size w w' := by
  have h1 := unquote_calls ⟨#[34, 92, 117, 48, 48, 101, 57, 34, 120]⟩ 0 w hT (by decide)
  rw [awake_unq] at h1
  have HU := Aside0.mk h1
  have HQ := Aside0.mk (fun w1 (h : Tabs w1) => quote_calls ⟨#[97, 10, 98]⟩ w1 h (by decide))
  rw [awake_quote] at HQ
  have HT := Aside0.mk hT
  clear h1 hT
  go_enter Tryd.func39, Tryd.ntmps39
  go_wp2_with (first
    | (go_at_call 40; (with_reducible refine HU.out.mono ?_); rintro e w1 ⟨rfl, hb⟩; have HB1 := Aside0.mk hb; have HT1 := Aside0.mk (tabs_below HT.out hb); clear hb)
    | (go_at_call 42; (with_reducible refine (HQ.out _ HT1.out).mono ?_); rintro e w2 ⟨rfl, hb⟩; have HB2 := Aside0.mk (below_step HB1.out hb); clear hb))
  go_ret
  exact ⟨rfl, HB2.out⟩
end Go.Proofs.YtpamgedmgjfjjaaDoor.M
end
section
namespace Go.Proofs.YtpamgedmgjfjjaaDoor.M
open Go.RowKit Go.Proofs.YtpamgedmgjfjjaaDoorW.PrintWords Go.Proofs.YtpamgedmgjfjjaaDoorW.PrintLast Go.Proofs.YtpamgedmgjfjjaaDoorW.PrintMore
set_option linter.unusedVariables false
set_option linter.unusedSimpArgs false
theorem ba_append (a b : ByteArray) : (a ++ b).data.toList = a.data.toList ++ b.data.toList := by
  rw [ByteArray.data_append, Array.toList_append]
end Go.Proofs.YtpamgedmgjfjjaaDoor.M
end
section
namespace Go.Proofs.YtpamgedmgjfjjaaDoor.M
open Go.RowKit Go.Proofs.YtpamgedmgjfjjaaDoorW.PrintWords Go.Proofs.YtpamgedmgjfjjaaDoorW.PrintLast Go.Proofs.YtpamgedmgjfjjaaDoorW.PrintMore
open Go.Lib (decodeL decodeN)
set_option linter.unusedVariables false
set_option linter.unusedSimpArgs false
theorem bn_drop (S : ByteArray) (i : Nat) (l : List UInt8) (h : S.data.toList.drop i = l) (j : Nat) (hj : j < l.length) : i + j < S.size ∧ bn S (i + j) = (l[j]'hj).toNat := by
  have hl : l.length = S.size - i := by rw [← h, List.length_drop, data_length]
  have h1 : i + j < S.size := by omega
  refine ⟨h1, ?_⟩
  rw [bn_get S (i + j) h1]
  subst h
  rw [List.getElem_drop]
  rfl
end Go.Proofs.YtpamgedmgjfjjaaDoor.M
end
section
namespace Go.Proofs.YtpamgedmgjfjjaaDoor.M
open Go.RowKit Go.Proofs.YtpamgedmgjfjjaaDoorW.PrintWords Go.Proofs.YtpamgedmgjfjjaaDoorW.PrintLast Go.Proofs.YtpamgedmgjfjjaaDoorW.PrintMore
attribute [local go_sem] max2_int min2_int max_two min_two max_three min_three max_four min_four
set_option linter.unusedVariables false
set_option linter.unusedSimpArgs false
mutual
def erratumlaw07_hex.j0 : Nat → Int → ByteArray → Option (ByteArray)
  | 0, _, _ => none
  | k + 1, x0, x5 => erratumlaw07_hex.l0 k x0 x5 (⟨#[92, 117]⟩ : ByteArray) 12
def erratumlaw07_hex.l0 : Nat → Int → ByteArray → ByteArray → Int → Option (ByteArray)
  | 0, _, _, _, _ => none
  | k + 1, x0, x5, x6, x7 => if x7 ≥ 0 then (if 0 ≤ (IntKind.u64.wrap (x7)) then (if 0 ≤ (Go.bits .and .i32 (shr .i32 x0 (IntKind.u64.wrap (x7))) 15) then (if (Go.bits .and .i32 (shr .i32 x0 (IntKind.u64.wrap (x7))) 15) ≤ (wrap32 ((Go.bits .and .i32 (shr .i32 x0 (IntKind.u64.wrap (x7))) 15) + 1)) then (if (wrap32 ((Go.bits .and .i32 (shr .i32 x0 (IntKind.u64.wrap (x7))) 15) + 1)) ≤ (x5.size : Int) then (if x6.size + (x5.extract ((Go.bits .and .i32 (shr .i32 x0 (IntKind.u64.wrap (x7))) 15) : Int).toNat ((wrap32 ((Go.bits .and .i32 (shr .i32 x0 (IntKind.u64.wrap (x7))) 15) + 1)) : Int).toNat).size ≤ 9223372036854775807 then (erratumlaw07_hex.l0 k x0 x5 (x6 ++ (x5.extract ((Go.bits .and .i32 (shr .i32 x0 (IntKind.u64.wrap (x7))) 15) : Int).toNat ((wrap32 ((Go.bits .and .i32 (shr .i32 x0 (IntKind.u64.wrap (x7))) 15) + 1)) : Int).toNat)) (wrap64 (x7 - 4))) else (none)) else (none)) else (none)) else (none)) else (none)) else (some x6)
end
def erratumlaw07_hex.f (k : Nat) (a0 : Int) (a1 : Bool) : Option (ByteArray) := if a1 = true then (erratumlaw07_hex.j0 k a0 (⟨#[48, 49, 50, 51, 52, 53, 54, 55, 56, 57, 65, 66, 67, 68, 69, 70]⟩ : ByteArray)) else (erratumlaw07_hex.j0 k a0 (⟨#[48, 49, 50, 51, 52, 53, 54, 55, 56, 57, 97, 98, 99, 100, 101, 102]⟩ : ByteArray))
theorem erratumlaw07_hex.mono_l : ∀ k, (∀ y0 y1, LeO (erratumlaw07_hex.j0 k y0 y1) (erratumlaw07_hex.j0 (k + 1) y0 y1)) ∧ (∀ y0 y1 y2 y3, LeO (erratumlaw07_hex.l0 k y0 y1 y2 y3) (erratumlaw07_hex.l0 (k + 1) y0 y1 y2 y3))
  | 0 => ⟨fun _ _ r h => by simp [erratumlaw07_hex.j0] at h, fun _ _ _ _ r h => by simp [erratumlaw07_hex.l0] at h⟩
  | k + 1 => by
    obtain ⟨ih0, ih1⟩ := erratumlaw07_hex.mono_l k
    refine ⟨?_, ?_⟩
    · intro y0 y1
      unfold erratumlaw07_hex.j0
      repeat' first
      | (with_reducible exact ih0 _ _)
      | (with_reducible exact ih1 _ _ _ _)
      | (with_reducible exact LeO.refl _)
      | (with_reducible exact LeO.none _)
      | (with_reducible refine LeO.ite ?_ ?_)
      | (with_reducible refine LeO.bind ?_ (fun _ => ?_))
      | exact ih0 _ _
      | exact ih1 _ _ _ _
      | exact LeO.none _
      | refine LeO.ite ?_ ?_
      | refine LeO.bind ?_ (fun _ => ?_)
    · intro y0 y1 y2 y3
      unfold erratumlaw07_hex.l0
      repeat' first
      | (with_reducible exact ih0 _ _)
      | (with_reducible exact ih1 _ _ _ _)
      | (with_reducible exact LeO.refl _)
      | (with_reducible exact LeO.none _)
      | (with_reducible refine LeO.ite ?_ ?_)
      | (with_reducible refine LeO.bind ?_ (fun _ => ?_))
      | exact ih0 _ _
      | exact ih1 _ _ _ _
      | exact LeO.none _
      | refine LeO.ite ?_ ?_
      | refine LeO.bind ?_ (fun _ => ?_)
theorem erratumlaw07_hex.mono : ∀ a0 a1 k, LeO (erratumlaw07_hex.f k a0 a1) (erratumlaw07_hex.f (k + 1) a0 a1) := by
  intro a0 a1 k
  obtain ⟨ih0, ih1⟩ := erratumlaw07_hex.mono_l k
  unfold erratumlaw07_hex.f
  repeat' first
      | (with_reducible exact ih0 _ _)
      | (with_reducible exact ih1 _ _ _ _)
      | (with_reducible exact LeO.refl _)
      | (with_reducible exact LeO.none _)
      | (with_reducible refine LeO.ite ?_ ?_)
      | (with_reducible refine LeO.bind ?_ (fun _ => ?_))
      | exact ih0 _ _
      | exact ih1 _ _ _ _
      | exact LeO.none _
      | refine LeO.ite ?_ ?_
      | refine LeO.bind ?_ (fun _ => ?_)
set_option maxHeartbeats 8000000 in
set_option maxRecDepth 100000 in
theorem erratumlaw07_hex.calls (k : Nat) (a0 : Int) (a1 : Bool) (r : ByteArray) (w : World) (h : erratumlaw07_hex.f k a0 a1 = some r) :
    Calls Tryd.prog 44 #[.int .i32 a0, .bool a1] w fun e w' => e = .returned (.string r) ∧ Drawn0 w w' := by
  have H : (if a1 = true then (erratumlaw07_hex.j0 k a0 (⟨#[48, 49, 50, 51, 52, 53, 54, 55, 56, 57, 65, 66, 67, 68, 69, 70]⟩ : ByteArray)) else (erratumlaw07_hex.j0 k a0 (⟨#[48, 49, 50, 51, 52, 53, 54, 55, 56, 57, 97, 98, 99, 100, 101, 102]⟩ : ByteArray))) = some r := h
  clear h
  have HC3 := Aside0.mk H
  clear H
  go_enter Tryd.func44, Tryd.ntmps44
  go_upto_if 9 with (fail)
  go_cut [5] (fun v5 wc => ∃ (kq : Nat) (x5_2 : ByteArray), v5 = .string x5_2 ∧ Aside0 (erratumlaw07_hex.j0 kq a0 x5_2 = some r) ∧ Aside0 (kq ≤ k) ∧ Drawn0 w wc)
  case first =>
    have H := HC3.out
    clear HC3
    by_cases c4 : a1 = true
    · subst c4
      have H1 : (erratumlaw07_hex.j0 k a0 (⟨#[48, 49, 50, 51, 52, 53, 54, 55, 56, 57, 65, 66, 67, 68, 69, 70]⟩ : ByteArray)) = some r := by rw [if_pos rfl] at H; exact H
      clear H
      have H := H1
      clear H1
      have H' := Aside0.mk H
      clear H
      go_wp2
      go_meet
      case rel => exact ⟨_, ((⟨#[48, 49, 50, 51, 52, 53, 54, 55, 56, 57, 65, 66, 67, 68, 69, 70]⟩ : ByteArray)), (by first | rfl | (simp; done) | (simp [*]; done)), H', ⟨by first | omega | exact Nat.le_refl _⟩, by repeat (first | exact Drawn0.refl _ | apply Drawn0.step)⟩
    · replace c4 := Bool.eq_false_iff.mpr c4
      subst c4
      have H1 : (erratumlaw07_hex.j0 k a0 (⟨#[48, 49, 50, 51, 52, 53, 54, 55, 56, 57, 97, 98, 99, 100, 101, 102]⟩ : ByteArray)) = some r := by rw [if_neg (show ¬ (false = true) by decide)] at H; exact H
      clear H
      have H := H1
      clear H1
      have H' := Aside0.mk H
      clear H
      go_wp2
      go_meet
      case rel => exact ⟨_, ((⟨#[48, 49, 50, 51, 52, 53, 54, 55, 56, 57, 97, 98, 99, 100, 101, 102]⟩ : ByteArray)), (by first | rfl | (simp; done) | (simp [*]; done)), H', ⟨by first | omega | exact Nat.le_refl _⟩, by repeat (first | exact Drawn0.refl _ | apply Drawn0.step)⟩
  case rest =>
    clear HC3
    try clear p2
    try clear c4
    obtain ⟨kq, x5_2, rfl, HA, HJ2, ⟨mc2, rfl⟩⟩ := hcut
    cases kq with
    | zero => exact absurd HA.out (by simp [erratumlaw07_hex.j0])
    | succ kj2 =>
      have H := HA.out
      clear HA
      simp only [erratumlaw07_hex.j0] at H
      have H' := Aside0.mk H
      clear H
      go_wp2
      go_loopg [6, 7] kj2 (fun kq v6 v7 w' => ∃ (x6_2 : ByteArray) (x7_2 : Int), v6 = .string x6_2 ∧ v7 = .int .i64 x7_2 ∧ Aside0 (erratumlaw07_hex.l0 kq a0 x5_2 x6_2 x7_2 = some r) ∧ Aside0 (kq ≤ kj2) ∧ Drawn0 w w')
      case atStart => exact ⟨((⟨#[92, 117]⟩ : ByteArray)), (12), (by first | rfl | (simp; done) | (simp [*]; done)), (by first | rfl | (simp; done) | (simp [*]; done)), H', ⟨Nat.le_refl _⟩, by repeat (first | exact Drawn0.refl _ | apply Drawn0.step)⟩
      case round =>
        clear H'
        try clear c2
        try clear p2
        try clear c4
        try clear p2
        obtain ⟨x6_2, x7_2, rfl, rfl, HA, HK2, ⟨m2, rfl⟩⟩ := hrel
        cases gk with
        | zero => exact absurd HA.out (by simp [erratumlaw07_hex.l0])
        | succ k2 =>
          have H := HA.out
          clear HA
          simp only [erratumlaw07_hex.l0] at H
          by_cases c5 : x7_2 ≥ 0
          · rw [if_pos c5] at H
            have c5b0 : decide (0 ≤ x7_2) = true := decide_eq_true c5
            clear c5
            obtain ⟨ji6, hji6⟩ : ∃ j_ : Int, (IntKind.u64.wrap (x7_2)) = j_ := ⟨_, rfl⟩
            replace H : (if 0 ≤ (ji6) then (if 0 ≤ (Go.bits .and .i32 (shr .i32 a0 (ji6)) 15) then (if (Go.bits .and .i32 (shr .i32 a0 (ji6)) 15) ≤ (wrap32 ((Go.bits .and .i32 (shr .i32 a0 (ji6)) 15) + 1)) then (if (wrap32 ((Go.bits .and .i32 (shr .i32 a0 (ji6)) 15) + 1)) ≤ (x5_2.size : Int) then (if x6_2.size + (x5_2.extract ((Go.bits .and .i32 (shr .i32 a0 (ji6)) 15) : Int).toNat ((wrap32 ((Go.bits .and .i32 (shr .i32 a0 (ji6)) 15) + 1)) : Int).toNat).size ≤ 9223372036854775807 then (erratumlaw07_hex.l0 k2 a0 x5_2 (x6_2 ++ (x5_2.extract ((Go.bits .and .i32 (shr .i32 a0 (ji6)) 15) : Int).toNat ((wrap32 ((Go.bits .and .i32 (shr .i32 a0 (ji6)) 15) + 1)) : Int).toNat)) (wrap64 (x7_2 - 4))) else (none)) else (none)) else (none)) else (none)) else (none)) = some r := by first | (rw [hji6] at H; exact H) | (simp only [hji6] at H ⊢; exact H)
            by_cases c7 : 0 ≤ (ji6)
            · rw [if_pos c7] at H
              have c7b0 := eq_true c7
              have c7b1 : decide (0 ≤ (ji6)) = true := decide_eq_true c7
              clear c7
              obtain ⟨ji8, hji8⟩ : ∃ j_ : Int, (shr .i32 a0 (ji6)) = j_ := ⟨_, rfl⟩
              replace H : (if 0 ≤ (Go.bits .and .i32 (ji8) 15) then (if (Go.bits .and .i32 (ji8) 15) ≤ (wrap32 ((Go.bits .and .i32 (ji8) 15) + 1)) then (if (wrap32 ((Go.bits .and .i32 (ji8) 15) + 1)) ≤ (x5_2.size : Int) then (if x6_2.size + (x5_2.extract ((Go.bits .and .i32 (ji8) 15) : Int).toNat ((wrap32 ((Go.bits .and .i32 (ji8) 15) + 1)) : Int).toNat).size ≤ 9223372036854775807 then (erratumlaw07_hex.l0 k2 a0 x5_2 (x6_2 ++ (x5_2.extract ((Go.bits .and .i32 (ji8) 15) : Int).toNat ((wrap32 ((Go.bits .and .i32 (ji8) 15) + 1)) : Int).toNat)) (wrap64 (x7_2 - 4))) else (none)) else (none)) else (none)) else (none)) = some r := by first | (rw [hji8] at H; exact H) | (simp only [hji8] at H ⊢; exact H)
              have hji8_ : (a0 / 2 ^ min (ji6).toNat 32) = ji8 := hji8
              have hji8z : (ji6) ≤ 32 → (a0 / 2 ^ (ji6).toNat) = ji8 := shr_small hji8
              by_cases c9 : 0 ≤ (Go.bits .and .i32 (ji8) 15)
              · rw [if_pos c9] at H
                have c9b0 := eq_true c9
                have c9b1 : decide (0 ≤ (Go.bits .and .i32 (ji8) 15)) = true := decide_eq_true c9
                clear c9
                by_cases c10 : (Go.bits .and .i32 (ji8) 15) ≤ (wrap32 ((Go.bits .and .i32 (ji8) 15) + 1))
                · rw [if_pos c10] at H
                  have c10b0 := eq_true c10
                  have c10b1 : decide ((Go.bits .and .i32 (ji8) 15) ≤ (wrap32 ((Go.bits .and .i32 (ji8) 15) + 1))) = true := decide_eq_true c10
                  by_cases c11 : (wrap32 ((Go.bits .and .i32 (ji8) 15) + 1)) ≤ (x5_2.size : Int)
                  · rw [if_pos c11] at H
                    have c11b0 := eq_true c11
                    have c11b1 : decide ((wrap32 ((Go.bits .and .i32 (ji8) 15) + 1)) ≤ (x5_2.size : Int)) = true := decide_eq_true c11
                    by_cases c12 : x6_2.size + (x5_2.extract ((Go.bits .and .i32 (ji8) 15) : Int).toNat ((wrap32 ((Go.bits .and .i32 (ji8) 15) + 1)) : Int).toNat).size ≤ 9223372036854775807
                    · rw [if_pos c12] at H
                      have c12b0 := eq_true c12
                      have c12b1 : decide (x6_2.size + (x5_2.extract ((Go.bits .and .i32 (ji8) 15) : Int).toNat ((wrap32 ((Go.bits .and .i32 (ji8) 15) + 1)) : Int).toNat).size ≤ 9223372036854775807) = true := decide_eq_true c12
                      try have c12b2 : (9223372036854775807 < x6_2.size + (x5_2.extract ((Go.bits .and .i32 (ji8) 15) : Int).toNat ((wrap32 ((Go.bits .and .i32 (ji8) 15) + 1)) : Int).toNat).size) = False := eq_false (Nat.not_lt.2 c12)
                      have H' := Aside0.mk H
                      clear H
                      go_wp2
                      go_roundg k2
                      case measure => have := HJ2.out; have := HK2.out; omega
                      case rel => exact ⟨(x6_2 ++ (x5_2.extract ((Go.bits .and .i32 (ji8) 15) : Int).toNat ((wrap32 ((Go.bits .and .i32 (ji8) 15) + 1)) : Int).toNat)), (wrap64 (x7_2 - 4)), (by first | rfl | (simp; done) | (simp only [← hji8] <;> (first | rfl | simp)) | (simp [*]; done)), (by first | rfl | (simp; done) | (simp [*]; done)), H', ⟨by have := HJ2.out; have := HK2.out; omega⟩, by repeat (first | exact Drawn0.refl _ | apply Drawn0.step)⟩
                    · rw [if_neg c12] at H
                      exact absurd H (by simp)
                  · rw [if_neg c11] at H
                    exact absurd H (by simp)
                · rw [if_neg c10] at H
                  exact absurd H (by simp)
              · rw [if_neg c9] at H
                exact absurd H (by simp)
            · rw [if_neg c7] at H
              exact absurd H (by simp)
          · rw [if_neg c5] at H
            have c5b0 : decide (0 ≤ x7_2) = false := decide_eq_false c5
            clear c5
            obtain rfl := Option.some.inj H
            go_wp2
            go_ret
            exact ⟨by first | rfl | (simp; done) | (simp [*]; done), by repeat (first | exact Drawn0.refl _ | apply Drawn0.step)⟩
end Go.Proofs.YtpamgedmgjfjjaaDoor.M
end
