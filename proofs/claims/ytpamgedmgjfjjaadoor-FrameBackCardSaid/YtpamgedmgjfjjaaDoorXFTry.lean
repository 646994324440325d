/-
frame.try: what is thrown is caught.
-/
import Derived.Test.YtpamgedmgjfjjaaDoorXFRead
import Derived.Defers
import Derived.Recover
namespace Go.Proofs.YtpamgedmgjfjjaaDoor.M
open Go.RowKit Go.Proofs.YtpamgedmgjfjjaaDoorW.PrintWords Go.Proofs.YtpamgedmgjfjjaaDoorW.PrintLast Go.Proofs.YtpamgedmgjfjjaaDoorW.PrintMore
set_option linter.unusedVariables false
set_option linter.unusedSimpArgs false
set_option maxHeartbeats 2000000 in
set_option maxRecDepth 100000 in
theorem tryd_idle (p : Addr) (w : World) :
    CallsD Tryd.prog 72 #[.pointer (some p)] .returning w fun e u' w' => e = .returned (.tuple #[]) ∧ u' = .returning ∧ w' = w := by
  have hn : ∀ w : World, (binOp BinOp.neq 20 .nilIface .nilIface).run Tryd.prog w = .ok (.bool false) w := fun _ => by kernel_rfl
  refine callsD_of_wpS Tryd.func72 rfl fun c₀ cs hu => ?_
  apply wpS_seq
  apply wpS_region
  simp [wpOpsS, go_sem, recoverD, hu, Tryd.ntmps72, Exit.thenS]
  refine wpS_of_wp ?_
  go_wp2
  cases c₀
  simp_all [bodyPostS, results, Tryd.results72]
set_option maxHeartbeats 2000000 in
set_option maxRecDepth 100000 in
theorem tryd_thrown (g : Nat) (k : Int) (w : World) (hc : w.heap[g]? = some (.cells #[.int .i64 0] 30 (0, 0))) :
    CallsD Tryd.prog 72 #[.pointer (some ⟨g, 0, none⟩)] (.panicking (Thrown k)) w fun e u' w' =>
      e = .returned (.tuple #[]) ∧ u' = .panicking [{ v := .iface 30 (.int .i64 k), recovered := true }] ∧ w' = w.setCell ⟨g, 0, none⟩ (.int .i64 k) := by
  have hn : ∀ w : World, (binOp BinOp.neq 20 (.iface 30 (.int .i64 k)) .nilIface).run Tryd.prog w = .ok (.bool true) w := fun _ => rfl
  have ht : ∀ w : World, (Instr.typeAssert (.iface 30 (.int .i64 k)) 20 30 true).run Tryd.prog w = .ok (.tuple #[.int .i64 k, .bool true]) w := fun _ => rfl
  have c1 := blk_cell hc 0
  have f1 := blk_frozen hc 0
  simp only [List.getElem?_toArray, List.getElem?_cons_zero] at c1
  refine callsD_of_wpS Tryd.func72 rfl fun c₀ cs hu => ?_
  apply wpS_seq
  apply wpS_region
  simp [wpOpsS, go_sem, recoverD, hu, Tryd.ntmps72, Exit.thenS]
  refine wpS_of_wp ?_
  simp only [Array.replicate_succ, Array.replicate_zero, List.push_toArray, List.append_toArray, List.nil_append, List.cons_append, List.setIfInBounds_toArray, List.set_cons_succ, List.set_cons_zero]
  clear hu hc
  go_wp2
  exact ⟨rfl, _, rfl, _, results_none rfl _ _ _, rfl, rfl, rfl⟩
set_option maxHeartbeats 2000000 in
set_option maxRecDepth 100000 in
/-- Nothing is thrown. -/
theorem try_ok55 (caps : Array Value) (w : World) (Post : World → Prop)
    (hC : Calls Tryd.prog 55 caps (w.alloc (.cells #[.int .i64 0] 30)) fun e w' => e = .returned (.tuple #[]) ∧ w'.heap[w.heap.size]? = some (.cells #[.int .i64 0] 30 (0, 0)) ∧ Post w') :
    Calls Tryd.prog 54 #[.func (.func 55) #[] caps] w fun e w' => e = .returned (.int .i64 0) ∧ ∃ w1, Post w1 ∧ w' = w1.setCell ⟨w.heap.size, 0, none⟩ (.int .i64 0) := by
  have hmf : ∀ (fn : Fn) (first cap : Array Value) (w : World), (Instr.makeFunc fn first cap).run Tryd.prog w = .ok (.func fn first cap) w := fun _ _ _ _ => rfl
  go_enter_defers Tryd.func54, Tryd.ntmps54
  go_wp2_with fail
  refine hC.mono ?_
  rintro e w1 ⟨rfl, hb, hp⟩
  have c1 := blk_cell hb 0
  have f1 := blk_frozen hb 0
  simp only [List.getElem?_toArray, List.getElem?_cons_zero] at c1
  go_wp2
  refine leaves_cons (f := 72) (args := #[.pointer (some ⟨w.heap.size, 0, none⟩)]) (by simp) (by simp [go_sem]) ?_
  refine (tryd_idle ⟨w.heap.size, 0, none⟩ _).mono ?_
  rintro e u' w'' ⟨rfl, rfl, rfl⟩
  have hb2 : (w1.setCell ⟨w.heap.size, 0, none⟩ (.int .i64 0)).heap[w.heap.size]? = some (.cells #[.int .i64 0] 30 (0, 0)) := blk_put hb 0 (.int .i64 0) rfl
  have c2 := blk_cell hb2 0
  simp only [List.getElem?_toArray, List.getElem?_cons_zero] at c2
  simp [Leaves, settle, results, Tryd.results54, go_sem, c2]
  exact ⟨w1, hp, rfl⟩
set_option maxHeartbeats 2000000 in
set_option maxRecDepth 100000 in
/-- What is thrown is the answer. -/
theorem try_bad55 (caps : Array Value) (w : World) (k : Int) (Post : World → Prop)
    (hC : Calls Tryd.prog 55 caps (w.alloc (.cells #[.int .i64 0] 30)) fun e w' => e = .panicked (Thrown k) ∧ w'.heap[w.heap.size]? = some (.cells #[.int .i64 0] 30 (0, 0)) ∧ Post w') :
    Calls Tryd.prog 54 #[.func (.func 55) #[] caps] w fun e w' => e = .returned (.int .i64 k) ∧ ∃ w1, Post w1 ∧ w' = w1.setCell ⟨w.heap.size, 0, none⟩ (.int .i64 k) := by
  have hmf : ∀ (fn : Fn) (first cap : Array Value) (w : World), (Instr.makeFunc fn first cap).run Tryd.prog w = .ok (.func fn first cap) w := fun _ _ _ _ => rfl
  go_enter_defers Tryd.func54, Tryd.ntmps54
  go_wp2_with fail
  refine hC.mono ?_
  rintro e w1 ⟨rfl, hb, hp⟩
  refine leaves_cons (f := 72) (args := #[.pointer (some ⟨w.heap.size, 0, none⟩)]) (by simp) (by simp [go_sem]) ?_
  refine (tryd_thrown w.heap.size k _ hb).mono ?_
  rintro e u' w'' ⟨rfl, rfl, rfl⟩
  have hb2 : (w1.setCell ⟨w.heap.size, 0, none⟩ (.int .i64 k)).heap[w.heap.size]? = some (.cells #[.int .i64 k] 30 (0, 0)) := blk_put hb 0 (.int .i64 k) rfl
  have c2 := blk_cell hb2 0
  simp only [List.getElem?_toArray, List.getElem?_cons_zero] at c2
  simp [Leaves, settle, results, Tryd.results54, go_sem, c2]
  exact ⟨w1, hp, rfl⟩
set_option maxHeartbeats 2000000 in
set_option maxRecDepth 100000 in
/-- Nothing is thrown. -/
theorem try_ok64 (caps : Array Value) (w : World) (Post : World → Prop)
    (hC : Calls Tryd.prog 64 caps (w.alloc (.cells #[.int .i64 0] 30)) fun e w' => e = .returned (.tuple #[]) ∧ w'.heap[w.heap.size]? = some (.cells #[.int .i64 0] 30 (0, 0)) ∧ Post w') :
    Calls Tryd.prog 54 #[.func (.func 64) #[] caps] w fun e w' => e = .returned (.int .i64 0) ∧ ∃ w1, Post w1 ∧ w' = w1.setCell ⟨w.heap.size, 0, none⟩ (.int .i64 0) := by
  have hmf : ∀ (fn : Fn) (first cap : Array Value) (w : World), (Instr.makeFunc fn first cap).run Tryd.prog w = .ok (.func fn first cap) w := fun _ _ _ _ => rfl
  go_enter_defers Tryd.func54, Tryd.ntmps54
  go_wp2_with fail
  refine hC.mono ?_
  rintro e w1 ⟨rfl, hb, hp⟩
  have c1 := blk_cell hb 0
  have f1 := blk_frozen hb 0
  simp only [List.getElem?_toArray, List.getElem?_cons_zero] at c1
  go_wp2
  refine leaves_cons (f := 72) (args := #[.pointer (some ⟨w.heap.size, 0, none⟩)]) (by simp) (by simp [go_sem]) ?_
  refine (tryd_idle ⟨w.heap.size, 0, none⟩ _).mono ?_
  rintro e u' w'' ⟨rfl, rfl, rfl⟩
  have hb2 : (w1.setCell ⟨w.heap.size, 0, none⟩ (.int .i64 0)).heap[w.heap.size]? = some (.cells #[.int .i64 0] 30 (0, 0)) := blk_put hb 0 (.int .i64 0) rfl
  have c2 := blk_cell hb2 0
  simp only [List.getElem?_toArray, List.getElem?_cons_zero] at c2
  simp [Leaves, settle, results, Tryd.results54, go_sem, c2]
  exact ⟨w1, hp, rfl⟩
set_option maxHeartbeats 2000000 in
set_option maxRecDepth 100000 in
/-- What is thrown is the answer. -/
theorem try_bad64 (caps : Array Value) (w : World) (k : Int) (Post : World → Prop)
    (hC : Calls Tryd.prog 64 caps (w.alloc (.cells #[.int .i64 0] 30)) fun e w' => e = .panicked (Thrown k) ∧ w'.heap[w.heap.size]? = some (.cells #[.int .i64 0] 30 (0, 0)) ∧ Post w') :
    Calls Tryd.prog 54 #[.func (.func 64) #[] caps] w fun e w' => e = .returned (.int .i64 k) ∧ ∃ w1, Post w1 ∧ w' = w1.setCell ⟨w.heap.size, 0, none⟩ (.int .i64 k) := by
  have hmf : ∀ (fn : Fn) (first cap : Array Value) (w : World), (Instr.makeFunc fn first cap).run Tryd.prog w = .ok (.func fn first cap) w := fun _ _ _ _ => rfl
  go_enter_defers Tryd.func54, Tryd.ntmps54
  go_wp2_with fail
  refine hC.mono ?_
  rintro e w1 ⟨rfl, hb, hp⟩
  refine leaves_cons (f := 72) (args := #[.pointer (some ⟨w.heap.size, 0, none⟩)]) (by simp) (by simp [go_sem]) ?_
  refine (tryd_thrown w.heap.size k _ hb).mono ?_
  rintro e u' w'' ⟨rfl, rfl, rfl⟩
  have hb2 : (w1.setCell ⟨w.heap.size, 0, none⟩ (.int .i64 k)).heap[w.heap.size]? = some (.cells #[.int .i64 k] 30 (0, 0)) := blk_put hb 0 (.int .i64 k) rfl
  have c2 := blk_cell hb2 0
  simp only [List.getElem?_toArray, List.getElem?_cons_zero] at c2
  simp [Leaves, settle, results, Tryd.results54, go_sem, c2]
  exact ⟨w1, hp, rfl⟩
end Go.Proofs.YtpamgedmgjfjjaaDoor.M
