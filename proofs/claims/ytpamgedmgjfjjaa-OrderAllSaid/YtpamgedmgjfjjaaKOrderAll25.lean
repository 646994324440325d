/-
Lemmas for OrderAll, for every input they speak of: XTreesIn.
-/
import Derived.Test.YtpamgedmgjfjjaaKOrderAll03
import Derived.SliceStrings
import Derived.ChangeSlices
namespace Go.Proofs.Ytpamgedmgjfjjaa.M
open Go.ChangeShapes Go.WideShapes Go.RowKit Go.Proofs.YtpamgedmgjfjjaaW.PrintWords Go.Proofs.YtpamgedmgjfjjaaW.PrintLast Go.Proofs.YtpamgedmgjfjjaaW.PrintMore
set_option linter.unusedVariables false
set_option linter.unusedSimpArgs false
variable {H : Type} {enc : TypeId × Value → H} {W : World} {base : Nat} {sp : Nat → Bool} {hd : Bool}
theorem add_add (a : Addr) (x y : Nat) : (a.add x).add y = a.add (x + y) := by
  by_cases hx : x = 0 <;> by_cases hy : y = 0 <;> simp [Addr.add, hx, hy, Nat.add_assoc]
theorem in_ints {fuel : Nat} {cs : List Value} {x : DataW H × List MemPlace} (h : DataW.trod enc Try.prog W base sp hd fuel 46 cs = some x) :
    ∃ (A : Option Addr) (l : List Int) (c : Nat), cs = [.slice A l.length c] ∧ l.length ≤ c ∧ (Kd.int .u32).C W A l.length l := by
  rcases open_ints Try.underlying46 Try.underlying78 (by kernel_rfl) h with ⟨rfl, _⟩ | ⟨a, n, c, zs, rfl, _, hl, hm, hlen, _, hcell, _⟩
  · exact ⟨none, [], 0, rfl, Nat.le_refl _, Kd.C_nil _ _⟩
  · have hn : n ≤ zs.length := by rw [hlen]; split <;> omega
    have htl : (zs.take n).length = n := by rw [List.length_take]; omega
    refine ⟨some a, zs.take n, c, by rw [htl], by rw [htl]; exact hl, Kd.C_of_reads (d := 0) (h1 := fun _ => rfl) ⟨rfl, by rw [htl]; unfold maxLen at hm; omega, fun _ => ⟨a, rfl, fun j hj => ?_⟩⟩⟩
    rw [htl] at hj
    rw [hcell j (by omega)]
    congr 2
    simp [List.getD_eq_getElem?_getD, List.getElem?_take_of_lt hj]
theorem in_strings {fuel : Nat} {cs : List Value} {x : DataW H × List MemPlace} (h : DataW.trod enc Try.prog W base sp hd fuel 35 cs = some x) :
    ∃ (A : Option Addr) (l : List ByteArray) (c : Nat), cs = [.slice A l.length c] ∧ l.length ≤ c ∧ Kd.string.C W A l.length l := by
  rcases open_strings Try.underlying35 Try.underlying9 (by kernel_rfl) h with ⟨rfl, _⟩ | ⟨a, n, c, zs, rfl, _, hl, hm, hlen, _, hcell, _⟩
  · exact ⟨none, [], 0, rfl, Nat.le_refl _, Kd.C_nil _ _⟩
  · have hn : n ≤ zs.length := by rw [hlen]; split <;> omega
    have htl : (zs.take n).length = n := by rw [List.length_take]; omega
    refine ⟨some a, zs.take n, c, by rw [htl], by rw [htl]; exact hl, Kd.C_of_reads (d := ByteArray.empty) (h1 := fun _ => rfl) ⟨rfl, by rw [htl]; unfold maxLen at hm; omega, fun _ => ⟨a, rfl, fun j hj => ?_⟩⟩⟩
    rw [htl] at hj
    rw [hcell j (by omega)]
    congr 2
    simp [List.getD_eq_getElem?_getD, List.getElem?_take_of_lt hj]
theorem in_num {fuel : Nat} {cs : List Value} {x : DataW H × List MemPlace} (h : DataW.trod enc Try.prog W base sp hd fuel 48 cs = some x) :
    ∃ t : S48, k48.K W t cs := by
  have c48 : Try.prog.cellsOf 48 = 3 := by kernel_rfl
  have c46 : Try.prog.cellsOf 46 = 1 := by kernel_rfl
  have c3 : Try.prog.cellsOf 3 = 1 := by kernel_rfl
  have c4 : Try.prog.cellsOf 4 = 1 := by kernel_rfl
  obtain ⟨xs, m, rfl, _, hl, hlen, hf⟩ := DataW.trod_struct Try.underlying48 h
  rw [c48] at hl
  match cs, hl with
  | [v0, v1, v2], _ =>
    match xs, hlen with
    | [y0, y1, y2], _ =>
      have g0 := hf 0 _ rfl
      have g1 := hf 1 _ rfl
      have g2 := hf 2 _ rfl
      change DataW.trod enc Try.prog W base sp hd m 4 (([v0, v1, v2].drop 0).take (Try.prog.cellsOf 4)) = some y0 at g0
      change DataW.trod enc Try.prog W base sp hd m 46 (([v0, v1, v2].drop 1).take (Try.prog.cellsOf 46)) = some y1 at g1
      change DataW.trod enc Try.prog W base sp hd m 3 (([v0, v1, v2].drop 2).take (Try.prog.cellsOf 3)) = some y2 at g2
      simp only [c46, c3, c4, List.drop_zero, List.drop_succ_cons, List.take_succ_cons, List.take_zero, List.getElem?_cons_zero, List.getElem?_cons_succ] at g0 g1 g2
      obtain ⟨b, e0, _⟩ := DataW.trod_bool Try.underlying4 g0
      obtain ⟨A, l, c, e1, hc, hC⟩ := in_ints g1
      obtain ⟨i, e2, _⟩ := DataW.trod_int Try.underlying3 g2
      injection e0 with e0 _; injection e1 with e1 _; injection e2 with e2 _
      subst e0; subst e1; subst e2
      exact ⟨⟨b, l, i⟩, k48_mk W ⟨b, l, i⟩ hc hC⟩
theorem in_tree {fuel : Nat} (ih : ∀ m, m < fuel → ∀ (cs : List Value) (x : DataW H × List MemPlace), DataW.trod enc Try.prog W base sp hd m 44 cs = some x → ∃ (A : Option Addr) (l : List S50) (c : Nat), cs = [.slice A l.length c] ∧ l.length ≤ c ∧ k50.C W A l.length l)
    {cs : List Value} {x : DataW H × List MemPlace} (h : DataW.trod enc Try.prog W base sp hd fuel 50 cs = some x) : ∃ t : S50, k50.K W t cs := by
  have c50 : Try.prog.cellsOf 50 = 8 := by kernel_rfl
  have c48 : Try.prog.cellsOf 48 = 3 := by kernel_rfl
  have c35 : Try.prog.cellsOf 35 = 1 := by kernel_rfl
  have c44 : Try.prog.cellsOf 44 = 1 := by kernel_rfl
  have c9 : Try.prog.cellsOf 9 = 1 := by kernel_rfl
  have c3 : Try.prog.cellsOf 3 = 1 := by kernel_rfl
  have c4 : Try.prog.cellsOf 4 = 1 := by kernel_rfl
  obtain ⟨xs, m, rfl, _, hl, hlen, hf⟩ := DataW.trod_struct Try.underlying50 h
  rw [c50] at hl
  match cs, hl with
  | [v0, v1, v2, v3, v4, v5, v6, v7], _ =>
    match xs, hlen with
    | [y0, y1, y2, y3, y4, y5], _ =>
      have g0 := hf 0 _ rfl
      have g1 := hf 1 _ rfl
      have g2 := hf 2 _ rfl
      have g3 := hf 3 _ rfl
      have g4 := hf 4 _ rfl
      have g5 := hf 5 _ rfl
      change DataW.trod enc Try.prog W base sp hd m 3 (([v0, v1, v2, v3, v4, v5, v6, v7].drop 0).take (Try.prog.cellsOf 3)) = some y0 at g0
      change DataW.trod enc Try.prog W base sp hd m 4 (([v0, v1, v2, v3, v4, v5, v6, v7].drop 1).take (Try.prog.cellsOf 4)) = some y1 at g1
      change DataW.trod enc Try.prog W base sp hd m 48 (([v0, v1, v2, v3, v4, v5, v6, v7].drop 2).take (Try.prog.cellsOf 48)) = some y2 at g2
      change DataW.trod enc Try.prog W base sp hd m 9 (([v0, v1, v2, v3, v4, v5, v6, v7].drop 5).take (Try.prog.cellsOf 9)) = some y3 at g3
      change DataW.trod enc Try.prog W base sp hd m 35 (([v0, v1, v2, v3, v4, v5, v6, v7].drop 6).take (Try.prog.cellsOf 35)) = some y4 at g4
      change DataW.trod enc Try.prog W base sp hd m 44 (([v0, v1, v2, v3, v4, v5, v6, v7].drop 7).take (Try.prog.cellsOf 44)) = some y5 at g5
      simp only [c48, c35, c44, c9, c3, c4, List.drop_zero, List.drop_succ_cons, List.take_succ_cons, List.take_zero, List.getElem?_cons_zero, List.getElem?_cons_succ] at g0 g1 g2 g3 g4 g5
      obtain ⟨i, e0, _⟩ := DataW.trod_int Try.underlying3 g0
      obtain ⟨b, e1, _⟩ := DataW.trod_bool Try.underlying4 g1
      obtain ⟨u, hu⟩ := in_num g2
      obtain ⟨A3, d3, e2, l3, q3⟩ := k48_open hu
      obtain ⟨s, e3, _⟩ := DataW.trod_string Try.underlying9 g3
      obtain ⟨A6, l6, d6, e4, hc6, hC6⟩ := in_strings g4
      obtain ⟨A7, l7, d7, e5, hc7, hC7⟩ := ih m (Nat.lt_succ_self m) _ _ g5
      injection e0 with e0 _; injection e1 with e1 _; injection e3 with e3 _; injection e4 with e4 _; injection e5 with e5 _
      injection e2 with p2 e2; injection e2 with p3 e2; injection e2 with p4 _
      subst e0; subst e1; subst e3; subst e4; subst e5; subst p2; subst p3; subst p4
      exact ⟨⟨i, b, u, s, l6, l7⟩, k50_mk W ⟨i, b, u, s, l6, l7⟩ l3 q3 hc6 hC6 hc7 hC7⟩
theorem in_trees : ∀ (fuel : Nat) (cs : List Value) (x : DataW H × List MemPlace), DataW.trod enc Try.prog W base sp hd fuel 44 cs = some x →
    ∃ (A : Option Addr) (l : List S50) (c : Nat), cs = [.slice A l.length c] ∧ l.length ≤ c ∧ k50.C W A l.length l := by
  intro fuel
  induction fuel using Nat.strongRecOn with
  | _ fuel ih =>
    intro cs x h
    have c50 : Try.prog.cellsOf 50 = 8 := by kernel_rfl
    rcases DataW.trod_slice Try.underlying44 h with ⟨rfl, _⟩ | ⟨a, n, cap, elems, rest, m, rfl, rfl, _, _, hl, hm, hlen, hel, _, _⟩
    · exact ⟨none, [], 0, rfl, Nat.le_refl _, Kd.C_nil _ _⟩
    · have each : ∀ i, i < n → ∃ (t : S50) (c : List Value), k50.K W t c ∧ ∀ j u, c[j]? = some u → W.cell? (a.add (i * 8 + j)) = some u := by
        intro i hi
        have hE := hel i hi
        rw [c50, List.getElem?_eq_getElem (by omega)] at hE
        simp only [Option.bind_eq_some_iff] at hE
        obtain ⟨c, hc, hy⟩ := hE
        obtain ⟨_, hcl, hcell⟩ := World.cells?_some hc
        obtain ⟨t, ht⟩ := in_tree (fun m' hm' => ih m' (by omega)) hy
        refine ⟨t, c, ht, fun j u hj => ?_⟩
        have hj8 : j < 8 := by have := (List.getElem?_eq_some_iff.1 hj).1; omega
        have := hcell j hj8
        rw [add_add] at this
        rw [this, hj]
      let f : Nat → S50 := fun i => if hi : i < n then Classical.choose (each i hi) else ⟨0, false, ⟨false, [], 0⟩, ⟨#[]⟩, [], []⟩
      have hf : ∀ i, i < n → ∃ c : List Value, k50.K W (f i) c ∧ ∀ j u, c[j]? = some u → W.cell? (a.add (i * 8 + j)) = some u := by
        intro i hi
        have := Classical.choose_spec (each i hi)
        simp only [f, dif_pos hi]
        exact this
      have hlen2 : ((List.range n).map f).length = n := by simp
      refine ⟨some a, (List.range n).map f, cap, by rw [hlen2], by rw [hlen2]; exact hl, rfl, by rw [hlen2]; unfold maxLen at hm; omega, fun _ => ⟨a, rfl, fun j p hp => ?_⟩⟩
      have hj : j < n := by have := (List.getElem?_eq_some_iff.1 hp).1; omega
      have hpf : p = f j := by
        rw [List.getElem?_map, List.getElem?_range hj] at hp
        simpa using hp.symm
      subst hpf
      obtain ⟨c, hK, hcc⟩ := hf j hj
      exact ⟨c, k50.K_len hK, hK, hcc⟩
end Go.Proofs.Ytpamgedmgjfjjaa.M
