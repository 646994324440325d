/-
Lemmas for FrameAll, for every input they speak of: XFArg.
-/
import Derived.Test.YtpamgedmgjfjjaaDoorKFrameAll09
import Derived.ProofKit
import Derived.WideShapes
import Derived.ChangeArms
namespace Go.Proofs.YtpamgedmgjfjjaaDoor.M
open Go.ChangeShapes Go.WideShapes Go.ChangeAt Go.RowKit
set_option linter.unusedVariables false
set_option linter.unusedSimpArgs false
theorem cells29 : Tryd.prog.cellsOf 29 = 8 := by kernel_rfl
theorem cells32 : Tryd.prog.cellsOf 32 = 4 := by kernel_rfl
theorem cells3 : Tryd.prog.cellsOf 3 = 1 := by kernel_rfl
theorem cells9 : Tryd.prog.cellsOf 9 = 1 := by kernel_rfl
theorem cells30 : Tryd.prog.cellsOf 30 = 1 := by kernel_rfl
section
variable {H : Type} {enc : TypeId × Value → H} {w : World} {base : Nat} {spare : Nat → Bool} {held : Bool}
theorem one_int {n : Nat} {t : TypeId} {cs : List Value} {x} (ht : Tryd.prog.underlying t = some (.int .i64)) (h : DataW.trod enc Tryd.prog w base spare held n t cs = some x) : ∃ a, cs = [.int .i64 a] := by
  obtain ⟨a, e, _⟩ := DataW.trod_int ht h
  exact ⟨a, e⟩
theorem one_str {n : Nat} {t : TypeId} {cs : List Value} {x} (ht : Tryd.prog.underlying t = some .string) (h : DataW.trod enc Tryd.prog w base spare held n t cs = some x) : ∃ a, cs = [.string a] := by
  obtain ⟨a, e, _⟩ := DataW.trod_string ht h
  exact ⟨a, e⟩
set_option maxRecDepth 100000 in
theorem open_ask {r : Reach} {b0 : Nat} {v : Value} {d : DataW H} {p : List MemPlace} (hv : Value.okWide Tryd.prog w r b0 29 v) (h : DataW.Trod enc Tryd.prog w base spare held 29 v d p) : ∃ q : AskV, v = .agg q.cells := by
  obtain ⟨cs, rfl, hsz⟩ := okWide_struct Tryd.underlying29 hv
  rw [cells29] at hsz
  obtain ⟨fuel, hf⟩ := h
  obtain ⟨xs, n, _, _, hl, hxl, hfs⟩ := DataW.trod_struct Tryd.underlying29 hf
  have hc : ∀ i (hi : i < 8), (Value.agg cs).cells.toList = cs.toList := fun _ _ => rfl
  obtain ⟨c0, c1, c2, c3, c4, c5, c6, c7, rfl⟩ : ∃ c0 c1 c2 c3 c4 c5 c6 c7, cs = #[c0, c1, c2, c3, c4, c5, c6, c7] := by
    match cs, hsz with
    | ⟨[c0, c1, c2, c3, c4, c5, c6, c7]⟩, _ => exact ⟨c0, c1, c2, c3, c4, c5, c6, c7, rfl⟩
  have hx : ∀ i, i < 8 → ∃ y, xs[i]? = some y := fun i hi => ⟨_, List.getElem?_eq_getElem (by rw [hxl]; exact hi)⟩
  have f0 := hfs 0 _ rfl
  have f1 := hfs 1 _ rfl
  have f2 := hfs 2 _ rfl
  have f3 := hfs 3 _ rfl
  have f4 := hfs 4 _ rfl
  have f5 := hfs 5 _ rfl
  have f6 := hfs 6 _ rfl
  have f7 := hfs 7 _ rfl
  obtain ⟨y0, e0⟩ := hx 0 (by decide)
  obtain ⟨y1, e1⟩ := hx 1 (by decide)
  obtain ⟨y2, e2⟩ := hx 2 (by decide)
  obtain ⟨y3, e3⟩ := hx 3 (by decide)
  obtain ⟨y4, e4⟩ := hx 4 (by decide)
  obtain ⟨y5, e5⟩ := hx 5 (by decide)
  obtain ⟨y6, e6⟩ := hx 6 (by decide)
  obtain ⟨y7, e7⟩ := hx 7 (by decide)
  rw [e0] at f0
  rw [e1] at f1
  rw [e2] at f2
  rw [e3] at f3
  rw [e4] at f4
  rw [e5] at f5
  rw [e6] at f6
  rw [e7] at f7
  obtain ⟨a0, g0⟩ := one_int Tryd.underlying3 f0
  obtain ⟨a1, g1⟩ := one_str Tryd.underlying9 f1
  obtain ⟨a2, g2⟩ := one_int Tryd.underlying3 f2
  obtain ⟨a3, g3⟩ := one_int Tryd.underlying3 f3
  obtain ⟨a4, g4⟩ := one_int Tryd.underlying3 f4
  obtain ⟨a5, g5⟩ := one_int Tryd.underlying3 f5
  obtain ⟨a6, g6⟩ := one_int Tryd.underlying3 f6
  obtain ⟨a7, g7⟩ := one_str Tryd.underlying9 f7
  simp [Value.cells, cells3, cells9] at g0 g1 g2 g3 g4 g5 g6 g7
  subst g0 g1 g2 g3 g4 g5 g6 g7
  exact ⟨⟨a0, a1, a2, a3, a4, a5, a6, a7⟩, rfl⟩
set_option maxRecDepth 100000 in
theorem open_ans {r : Reach} {b0 : Nat} {v : Value} {d : DataW H} {p : List MemPlace} (hv : Value.okWide Tryd.prog w r b0 32 v) (h : DataW.Trod enc Tryd.prog w base spare held 32 v d p) : ∃ q : AnsV, v = .agg q.cells := by
  obtain ⟨cs, rfl, hsz⟩ := okWide_struct Tryd.underlying32 hv
  rw [cells32] at hsz
  obtain ⟨fuel, hf⟩ := h
  obtain ⟨xs, n, _, _, hl, hxl, hfs⟩ := DataW.trod_struct Tryd.underlying32 hf
  obtain ⟨c0, c1, c2, c3, rfl⟩ : ∃ c0 c1 c2 c3, cs = #[c0, c1, c2, c3] := by
    match cs, hsz with
    | ⟨[c0, c1, c2, c3]⟩, _ => exact ⟨c0, c1, c2, c3, rfl⟩
  have hx : ∀ i, i < 4 → ∃ y, xs[i]? = some y := fun i hi => ⟨_, List.getElem?_eq_getElem (by rw [hxl]; exact hi)⟩
  have f0 := hfs 0 _ rfl
  have f1 := hfs 1 _ rfl
  have f2 := hfs 2 _ rfl
  have f3 := hfs 3 _ rfl
  obtain ⟨y0, e0⟩ := hx 0 (by decide)
  obtain ⟨y1, e1⟩ := hx 1 (by decide)
  obtain ⟨y2, e2⟩ := hx 2 (by decide)
  obtain ⟨y3, e3⟩ := hx 3 (by decide)
  rw [e0] at f0
  rw [e1] at f1
  rw [e2] at f2
  rw [e3] at f3
  obtain ⟨a0, g0⟩ := one_int Tryd.underlying30 f0
  obtain ⟨a1, g1⟩ := one_int Tryd.underlying3 f1
  obtain ⟨a2, g2⟩ := one_int Tryd.underlying3 f2
  obtain ⟨a3, g3⟩ := one_str Tryd.underlying9 f3
  simp [Value.cells, cells3, cells9, cells30] at g0 g1 g2 g3
  subst g0 g1 g2 g3
  exact ⟨⟨a0, a1, a2, a3⟩, rfl⟩
end
end Go.Proofs.YtpamgedmgjfjjaaDoor.M
