/-
A strings.Builder that lies in a block of the call's own, by itself or as a field: what its methods come to. (After the shelf's contracts, whose closures do not fit this dump.)
-/
import Derived.Test.YtpamgedmgjfjjaaDoorXEnc
import Derived.Lib.Builder
import Derived.Lib.AppendStr
import Derived.Lib.UnsafeStr
import Derived.Lib.MakeNoZero
import Derived.Laws.Externs
import Derived.Laws.IdiomCopy
namespace Go.Proofs.YtpamgedmgjfjjaaDoor.M
open Go.RowKit Go.Proofs.YtpamgedmgjfjjaaDoorW.PrintWords Go.Proofs.YtpamgedmgjfjjaaDoorW.PrintLast Go.Proofs.YtpamgedmgjfjjaaDoorW.PrintMore
open Go.Lib (byteCells byteCells_length strCells strCells_length cell_of_heap frozen_of_heap ownBlock_ne alloc_old)
set_option linter.unusedVariables false
set_option linter.unusedSimpArgs false

/-- A builder at place o of block b, a block of type T with the cells cs, holding the bytes l. -/
structure BAt (o : Nat) (T : TypeId) (B b : Nat) (cs : Array Value) (l : List UInt8) (w : World) : Prop where
  hB : B ≤ b
  blk : w.heap[b]? = some (.cells cs T (0, 0))
  ptr : cs[o]? = some (.pointer none) ∨ cs[o]? = some (.pointer (some ⟨b, o, none⟩))
  buf : ∃ v, cs[o + 1]? = some v ∧ w.ownsRow B 5 1 v l.length (byteCells l)
/-- Where a builder may lie. -/
structure BFit (o : Nat) (T : TypeId) (n : Nat) : Prop where
  ne : T ≠ 5
  lies : liesAt Tryd.prog Tryd.prog.depth T (n / Tryd.prog.cellsOf T) o 75 1 = true
theorem fit75 : BFit 0 75 2 := ⟨by decide, by kernel_rfl⟩
theorem fit97 : BFit 2 97 4 := ⟨by decide, by kernel_rfl⟩
theorem size75 : (Tryd.prog.info? 75).map (·.size) = some 2 := by kernel_rfl
theorem cells5x : Tryd.prog.cellsOf 5 = 1 := by kernel_rfl

set_option maxHeartbeats 1000000 in
set_option maxRecDepth 100000 in
theorem copy_used (o b : Nat) (w : World) (h0 : w.cell? ⟨b, o, none⟩ = some (.pointer (some ⟨b, o, none⟩))) :
    Calls Tryd.prog 71 #[.pointer (some ⟨b, o, none⟩)] w fun e w' => e = .returned (.tuple #[]) ∧ w' = w := by
  obtain ⟨j, hj, _⟩ := Option.map_eq_some_iff.1 size75
  go_enter Tryd.func71, Tryd.ntmps71
  go_wp2
  rw [Lib.run_neq_ptr_same w _ Tryd.underlying73 hj]
  go_wp2
  go_end0
  exact ⟨rfl, rfl⟩
set_option maxHeartbeats 1000000 in
set_option maxRecDepth 100000 in
theorem copy_fresh (o b : Nat) (T : TypeId) (n : Nat) (w : World) (h0 : w.cell? ⟨b, o, none⟩ = some (.pointer none)) (hsh : w.shape? b = some (T, n)) (hn : o < n) (hfz : w.frozen? ⟨b, o, none⟩ = false) (hF : BFit o T n) :
    Calls Tryd.prog 71 #[.pointer (some ⟨b, o, none⟩)] w fun e w' => e = .returned (.tuple #[]) ∧ w' = w.setCell ⟨b, o, none⟩ (.pointer (some ⟨b, o, none⟩)) := by
  obtain ⟨j, hj, hjs⟩ := Option.map_eq_some_iff.1 size75
  have hL := Aside0.mk hF.lies
  have hN := Aside0.mk hn
  clear hn
  go_enter Tryd.func71, Tryd.ntmps71
  go_wp2
  rw [Lib.run_to_unsafe w ⟨b, o, none⟩ Tryd.underlying73 Tryd.underlying110 hj (by rw [hjs]; decide) hsh hN.out]
  simp only [Result.andThen]
  rw [Oper.upon_value]
  go_wp2
  rw [run_callFunc_extern Tryd.func77 (by kernel_rfl) (by kernel_rfl) (by kernel_rfl) (e := Extern.AbiNoEscape.same) (by kernel_rfl)]
  rw [Lib.run_noEscape]
  simp only [Result.andThen]
  rw [Oper.upon_value]
  go_wp2
  rw [Lib.run_from_unsafe w ⟨b, o, none⟩ Tryd.underlying110 Tryd.underlying73 hj hsh hL.out]
  simp only [Result.andThen]
  rw [Oper.upon_value]
  go_wp2
  go_end0
  exact ⟨rfl, rfl⟩
theorem BAt.lt {o : Nat} {T : TypeId} {B b : Nat} {cs : Array Value} {l : List UInt8} {w : World} (h : BAt o T B b cs l w) : b < w.heap.size := blk_lt h.blk
theorem BAt.set {o : Nat} {T : TypeId} {B b : Nat} {cs : Array Value} {l : List UInt8} {w : World} (h : BAt o T B b cs l w) (hT : T ≠ 5) : BAt o T B b (cs.setIfInBounds o (.pointer (some ⟨b, o, none⟩))) l (w.setCell ⟨b, o, none⟩ (.pointer (some ⟨b, o, none⟩))) := by
  obtain ⟨hB, hb, hp, v, hv, hown⟩ := h
  have hne := ownBlock_ne hown hb hT
  have ho : o < cs.size := by
    rcases hp with h | h <;> exact (Array.getElem?_eq_some_iff.1 h).1
  refine ⟨hB, ?_, .inr ?_, v, ?_, ?_⟩
  · simp [World.setCell, Array.getElem?_modify, hb]
  · simp [ho]
  · rw [Array.getElem?_setIfInBounds_ne (by omega)]
    exact hv
  · exact hown.kept (row := some b) ⟨rfl, rfl, rfl, by simp [World.setCell], fun k _ hk => Below.heap_setCell _ _ _ _ (fun e => hk (by simp [e]))⟩ (Or.inr hne)
theorem copy_any (o T B b n : Nat) (cs : Array Value) (l : List UInt8) (w : World) (h : BAt o T B b cs l w) (hn : cs.size = n) (hF : BFit o T n) :
    Calls Tryd.prog 71 #[.pointer (some ⟨b, o, none⟩)] w fun e w' => e = .returned (.tuple #[]) ∧ BAt o T B b (cs.setIfInBounds o (.pointer (some ⟨b, o, none⟩))) l w' ∧ Below B w w' := by
  subst hn
  rcases h.ptr with hp | hp
  · have ho : o < cs.size := (Array.getElem?_eq_some_iff.1 hp).1
    refine (copy_fresh o b T cs.size w (by rw [cell_of_heap h.blk]; exact hp) (by simp [World.shape?, h.blk]) ho (frozen_of_heap h.blk o) hF).mono ?_
    rintro e w' ⟨rfl, rfl⟩
    exact ⟨rfl, h.set hF.ne, (Below.refl B w).setCell (p := ⟨b, o, none⟩) h.hB _⟩
  · have ho : o < cs.size := (Array.getElem?_eq_some_iff.1 hp).1
    have e : cs.setIfInBounds o (.pointer (some ⟨b, o, none⟩)) = cs := by
      apply Array.ext_getElem?
      intro i
      by_cases hi : i = o
      · subst hi; simp [ho, hp]
        exact (Array.getElem?_eq_some_iff.1 hp).2.symm
      · rw [Array.getElem?_setIfInBounds_ne (by omega)]
    refine (copy_used o b w (by rw [cell_of_heap h.blk]; exact hp)).mono ?_
    rintro e w' ⟨rfl, rfl⟩
    rw [e]
    exact ⟨rfl, h, Below.refl B _⟩
theorem BAt.put {o : Nat} {T : TypeId} {B b : Nat} {cs : Array Value} {l' : List UInt8} {v' : Value} {w : World} (hB : B ≤ b) (hb : w.heap[b]? = some (.cells cs T (0, 0)))
    (hp : cs[o]? = some (.pointer (some ⟨b, o, none⟩))) (ho : o + 1 < cs.size) (hown : w.ownsRow B 5 1 v' l'.length (byteCells l')) (hT : T ≠ 5) :
    BAt o T B b (cs.setIfInBounds (o + 1) v') l' (w.setCell ⟨b, o + 1, none⟩ v') := by
  have hne := ownBlock_ne hown hb hT
  refine ⟨hB, ?_, .inr ?_, v', ?_, ?_⟩
  · simp [World.setCell, Array.getElem?_modify, hb]
  · rw [Array.getElem?_setIfInBounds_ne (by omega)]
    exact hp
  · simp [ho]
  · exact hown.kept (row := some b) ⟨rfl, rfl, rfl, by simp [World.setCell], fun k _ hk => Below.heap_setCell _ _ _ _ (fun e => hk (by simp [e]))⟩ (Or.inr hne)
theorem strCells_bytes (s : ByteArray) : strCells s = byteCells s.data.toList := rfl
theorem byteCells_append (a b : List UInt8) : byteCells a ++ byteCells b = byteCells (a ++ b) := by simp [byteCells]
set_option maxHeartbeats 2000000 in
set_option maxRecDepth 100000 in
/-- (*strings.Builder).WriteString. -/
theorem writeString_any (o T B b n : Nat) (cs : Array Value) (l : List UInt8) (s : ByteArray) (w : World) (h : BAt o T B b cs l w) (hn : cs.size = n) (ho : o + 1 < n) (hF : BFit o T n) (hlen : l.length + s.size ≤ 140737488355328) (hBw : B ≤ w.heap.size) :
    Calls Tryd.prog 50 #[.pointer (some ⟨b, o, none⟩), .string s] w fun e w' => e = .returned (.tuple #[.int .i64 s.size, .nilIface]) ∧
      ∃ v', BAt o T B b ((cs.setIfInBounds o (.pointer (some ⟨b, o, none⟩))).setIfInBounds (o + 1) v') (l ++ s.data.toList) w' ∧ Below B w w' := by
  obtain ⟨i0, hi, hz0, hz1, hz2⟩ := info_parts info5
  have HC := Aside0.mk (copy_any o T B b n cs l w h hn hF)
  have ho' : o < cs.size := by omega
  have HP0 := Aside0.mk (show (cs.setIfInBounds o (.pointer (some ⟨b, o, none⟩)))[o]? = some (.pointer (some ⟨b, o, none⟩)) by simp [ho'])
  have HP1 := Aside0.mk (show o + 1 < (cs.setIfInBounds o (.pointer (some ⟨b, o, none⟩))).size by simp; omega)
  clear ho'
  generalize cs.setIfInBounds o (.pointer (some ⟨b, o, none⟩)) = ds at *
  have HL := Aside0.mk hlen
  have HBw := Aside0.mk hBw
  clear hn ho h hlen hBw
  go_enter Tryd.func50, Tryd.ntmps50
  go_wp2_with (go_at_call 71; refine HC.out.mono ?_)
  rintro e w1 ⟨rfl, h1, hb1⟩
  obtain ⟨hB, hbk, hp, v, hv, hown⟩ := h1
  have hne := ownBlock_ne hown hbk hF.ne
  have hpo := HP0.out
  have hcs := HP1.out
  have HHB := Aside0.mk hB
  have HBK := Aside0.mk hbk
  have HB1 := Aside0.mk hb1
  have HNE := Aside0.mk hne
  have HPO := Aside0.mk hpo
  have HCS := Aside0.mk hcs
  have c1 : w1.cell? ⟨b, o + 1, none⟩ = some v := by rw [cell_of_heap hbk]; exact hv
  clear hp hv hB hbk hb1 hne hpo hcs
  go_wp2_with (at_builtin; refine Lib.wpList_append_own_string _ rfl _ _ 33 9 rfl B 5 i0 Tryd.underlying33 Tryd.underlying9 hi hz0 hz1 hz2 _ _ _ rfl hown s rfl ?c3 ?c4 ?c5 ?_)
  case c3 => unfold maxLen; have := HL.out; omega
  case c4 => exact HL.out
  case c5 => have := HB1.out.size; have := HBw.out; omega
  intro v' w2 hown' hgrow _
  have hlt : b < w1.heap.size := blk_lt HBK.out
  have hb2 : w2.heap[b]? = some (.cells ds T (0, 0)) := by
    rw [hgrow.block b hlt (fun e => HNE.out e.symm)]
    exact HBK.out
  have d1 : w2.cell? ⟨b, o + 1, none⟩ = some v := by rw [cell_of_heap hb2, ← cell_of_heap HBK.out]; exact c1
  have f1 : w2.frozen? ⟨b, o + 1, none⟩ = false := frozen_of_heap hb2 (o + 1)
  have HB2 := Aside0.mk hb2
  have HOW := Aside0.mk hown'
  have HBB := Aside0.mk (HB1.out.grown hgrow (by have := HB1.out.size; have := HBw.out; omega) (fun k hk => (hown.lt k hk).1))
  obtain ⟨ao, n', cap, rfl⟩ : ∃ ao n' cap, v' = .slice ao n' cap := by
    rcases hown'.2 with ⟨hv, _⟩ | ⟨g, cap, cur, hv, _⟩
    · exact ⟨_, _, _, hv⟩
    · exact ⟨_, _, _, hv⟩
  clear hgrow hown hown' hb2 hlt
  go_wp2
  go_ret2
  refine ⟨rfl, _, BAt.put HHB.out HB2.out HPO.out HCS.out ?_ hF.ne, HBB.out.setCell (p := ⟨b, o + 1, none⟩) HHB.out _⟩
  have h := HOW.out
  rw [strCells_bytes, byteCells_append] at h
  rw [List.length_append, data_length]
  exact h
set_option maxHeartbeats 2000000 in
set_option maxRecDepth 100000 in
/-- (*strings.Builder).WriteByte. -/
theorem writeByte_any (o T B b n : Nat) (cs : Array Value) (l : List UInt8) (c : UInt8) (w : World) (h : BAt o T B b cs l w) (hn : cs.size = n) (ho : o + 1 < n) (hF : BFit o T n) (hlen : l.length + 1 ≤ 140737488355328) (hBw : B ≤ w.heap.size) :
    Calls Tryd.prog 68 #[.pointer (some ⟨b, o, none⟩), .int .u8 c.toNat] w fun e w' => e = .returned .nilIface ∧
      ∃ v', BAt o T B b ((cs.setIfInBounds o (.pointer (some ⟨b, o, none⟩))).setIfInBounds (o + 1) v') (l ++ [c]) w' ∧ Below B w w' := by
  obtain ⟨i0, hi, hz0, hz1, hz2⟩ := info_parts info5
  have HC := Aside0.mk (copy_any o T B b n cs l w h hn hF)
  have ho' : o < cs.size := by omega
  have HP0 := Aside0.mk (show (cs.setIfInBounds o (.pointer (some ⟨b, o, none⟩)))[o]? = some (.pointer (some ⟨b, o, none⟩)) by simp [ho'])
  have HP1 := Aside0.mk (show o + 1 < (cs.setIfInBounds o (.pointer (some ⟨b, o, none⟩))).size by simp; omega)
  clear ho'
  generalize cs.setIfInBounds o (.pointer (some ⟨b, o, none⟩)) = ds at *
  have HCC := Aside0.mk (show byteCells l ++ [Value.int .u8 c.toNat] = byteCells (l ++ [c]) by simp [byteCells])
  generalize (c.toNat : Int) = x at *
  have HL := Aside0.mk hlen
  have HBw := Aside0.mk hBw
  clear hn ho h hlen hBw
  go_enter Tryd.func68, Tryd.ntmps68
  go_wp2_with (go_at_call 71; refine HC.out.mono ?_)
  rintro e w1 ⟨rfl, h1, hb1⟩
  obtain ⟨hB, hbk, hp, v, hv, hown⟩ := h1
  have hne := ownBlock_ne hown hbk hF.ne
  have HHB := Aside0.mk hB
  have HBK := Aside0.mk hbk
  have HB1 := Aside0.mk hb1
  have HNE := Aside0.mk hne
  have c1 : w1.cell? ⟨b, o + 1, none⟩ = some v := by rw [cell_of_heap hbk]; exact hv
  clear hp hv hB hbk hb1 hne
  go_wp2_with (at_builtin; refine wpList_append_own _ rfl _ _ 33 rfl B 5 i0 (.int .u8 0) 1 1 Tryd.underlying33 hi hz0 hz1 hz2 rfl (by decide) _ _ _ rfl (hown.alloc _) ⟨w1.heap.size, 0, none⟩ 1 1 [.int .u8 x] rfl rfl ?c1 ?c2 ?c3 ?c4 ?c5 ?_)
  case c1 =>
    intro j u hj
    match j, hj with
    | 0, hj => simp at hj; subst hj; simp [Addr.add]
  case c2 => intro u hu; simp at hu; subst hu; rfl
  case c3 => unfold maxLen; have := HL.out; omega
  case c4 => have := HL.out; omega
  case c5 => have := HB1.out.size; have := HBw.out; simp; omega
  intro v' w2 hown' hgrow _
  have hlt : b < w1.heap.size := blk_lt HBK.out
  have hb2 : w2.heap[b]? = some (.cells ds T (0, 0)) := by
    rw [hgrow.block b (by simp; omega) (fun e => HNE.out e.symm), alloc_old w1 _ b hlt]
    exact HBK.out
  have d1 : w2.cell? ⟨b, o + 1, none⟩ = some v := by rw [cell_of_heap hb2, ← cell_of_heap HBK.out]; exact c1
  have f1 : w2.frozen? ⟨b, o + 1, none⟩ = false := frozen_of_heap hb2 (o + 1)
  have HB2 := Aside0.mk hb2
  have HOW := Aside0.mk hown'
  have HBB := Aside0.mk ((HB1.out.alloc (by have := HB1.out.size; have := HBw.out; omega) _).grown hgrow (by have := HB1.out.size; have := HBw.out; simp; omega) (fun k hk => (hown.lt k hk).1))
  obtain ⟨ao, n', cap, rfl⟩ : ∃ ao n' cap, v' = .slice ao n' cap := by
    rcases hown'.2 with ⟨hv, _⟩ | ⟨g, cap, cur, hv, _⟩
    · exact ⟨_, _, _, hv⟩
    · exact ⟨_, _, _, hv⟩
  clear hgrow hown hown' hb2 hlt
  go_wp2
  go_ret
  refine ⟨rfl, _, BAt.put HHB.out HB2.out HP0.out HP1.out ?_ hF.ne, HBB.out.setCell (p := ⟨b, o + 1, none⟩) HHB.out _⟩
  have h := HOW.out
  rw [HCC.out] at h
  rw [List.length_append]
  exact h
theorem usNone (W : World) (q : Option Addr) : (Builtin.unsafeString_ #[102, 3] 9 #[.pointer q, .int .i64 0]).run Tryd.prog W = .ok (.string .empty) W := Lib.run_unsafeString_none W _ _ _ q
set_option maxHeartbeats 2000000 in
set_option maxRecDepth 100000 in
/-- (*strings.Builder).String: whatever it holds. -/
theorem string_any (o T B b : Nat) (cs : Array Value) (l : List UInt8) (w : World) (h : BAt o T B b cs l w) (hBw : B ≤ w.heap.size) :
    Calls Tryd.prog 51 #[.pointer (some ⟨b, o, none⟩)] w fun e w' => e = .returned (.string ⟨l.toArray⟩) ∧ Below B w w' := by
  obtain ⟨hB, hbk, _, v, hv, hown⟩ := h
  by_cases h0 : l = []
  · subst h0
    rcases hown.2 with ⟨rfl, _⟩ | ⟨g, cap, cur, rfl, hbg, hg, _, _, _, _⟩
    · have hUS := usNone
      have c1 : w.drew.cell? ⟨b, o + 1, none⟩ = some (.slice none 0 0) := by
        have : w.drew.heap[b]? = some (.cells cs T (0, 0)) := hbk
        rw [cell_of_heap this, hv]
      have hSD : (Builtin.unsafeSliceData_ #[33] 102 #[.slice none 0 0]).run Tryd.prog w.drew = .ok (.pointer none) w.drew := rfl
      clear hown hv hbk
      go_enter Tryd.func51, Tryd.ntmps51
      go_wp2
      go_region
      all_goals (go_wp2; go_ret; exact ⟨rfl, Below.drew (Below.refl B w)⟩)
    · by_cases hc0 : cap = 0
      · subst hc0
        have hUS := usNone
        have hlt : b < w.heap.size := blk_lt hbk
        have c1 : w.drew.cell? ⟨b, o + 1, none⟩ = some (.slice (some ⟨g, 0, none⟩) 0 0) := by
          have : w.drew.heap[b]? = some (.cells cs T (0, 0)) := hbk
          rw [cell_of_heap this, hv]; rfl
        have hSD : (Builtin.unsafeSliceData_ #[33] 102 #[.slice (some ⟨g, 0, none⟩) 0 0]).run Tryd.prog w.drew = .ok (.pointer (some ⟨w.drew.heap.size, 0, none⟩)) (w.drew.alloc (.view ⟨g, 0, none⟩ 5)) :=
          Lib.run_unsafeSliceData_zero w.drew _ _ 5 Tryd.underlying102 ⟨g, 0, none⟩ 0 (5, cur.size) (by have hg' : w.drew.heap[g]? = some (.cells cur 5 (0, 0)) := hg; simp [World.shape?, hg'])
        have c2 : (w.drew.alloc (.view ⟨g, 0, none⟩ 5)).cell? ⟨b, o + 1, none⟩ = some (.slice (some ⟨g, 0, none⟩) 0 0) := by
          have : (w.drew.alloc (.view ⟨g, 0, none⟩ 5)).heap[b]? = _ := (alloc_old w.drew _ b hlt).trans hbk
          rw [cell_of_heap this, hv]; rfl
        have c3 : (w.alloc (.view ⟨g, 0, none⟩ 5)).drew.cell? ⟨b, o + 1, none⟩ = some (.slice (some ⟨g, 0, none⟩) 0 0) := c2
        have c0 : w.cell? ⟨b, o + 1, none⟩ = some (.slice (some ⟨g, 0, none⟩) 0 0) := c1
        clear hown hv hbk hg
        go_enter Tryd.func51, Tryd.ntmps51
        go_wp2
        go_region
        all_goals (go_wp2; go_ret; exact ⟨rfl, Below.drew ((Below.refl B w).alloc hBw _)⟩)
      · have hUS := usNone
        have c1 : w.drew.cell? ⟨b, o + 1, none⟩ = some (.slice (some ⟨g, 0, none⟩) 0 cap) := by
          have : w.drew.heap[b]? = some (.cells cs T (0, 0)) := hbk
          rw [cell_of_heap this, hv]; rfl
        have hSD : (Builtin.unsafeSliceData_ #[33] 102 #[.slice (some ⟨g, 0, none⟩) 0 cap]).run Tryd.prog w.drew = .ok (.pointer (some ⟨g, 0, none⟩)) w.drew :=
          Lib.run_unsafeSliceData_row _ _ _ _ _ _ hc0
        clear hc0 hown hv hbk hg
        go_enter Tryd.func51, Tryd.ntmps51
        go_wp2
        go_region
        all_goals (go_wp2; go_ret; exact ⟨rfl, Below.drew (Below.refl B w)⟩)
  · have hl0 : l.length ≠ 0 := by simpa using h0
    obtain ⟨g, cap, cur, rfl, hbg, hg, hnc, hcm, hcs, htake⟩ : ∃ g cap cur, v = .slice (some ⟨g, 0, none⟩) l.length cap ∧ B ≤ g ∧ w.heap[g]? = some (.cells cur 5 (0, 0)) ∧ l.length ≤ cap ∧ cap ≤ maxLen ∧ cur.size = cap * 1 ∧ cur.toList.take (l.length * 1) = byteCells l := by
      rcases hown.2 with ⟨_, hz⟩ | ⟨g, cap, cur, hv, r⟩
      · exact absurd hz hl0
      · exact ⟨g, cap, cur, hv, r⟩
    have c1 : w.drew.cell? ⟨b, o + 1, none⟩ = some (.slice (some ⟨g, 0, none⟩) l.length cap) := by
      have : w.drew.heap[b]? = some (.cells cs T (0, 0)) := hbk
      rw [cell_of_heap this, hv]
    have hSD : (Builtin.unsafeSliceData_ #[33] 102 #[.slice (some ⟨g, 0, none⟩) l.length cap]).run Tryd.prog w.drew = .ok (.pointer (some ⟨g, 0, none⟩)) w.drew :=
      Lib.run_unsafeSliceData_row _ _ _ _ _ _ (by omega)
    have hUS : (Builtin.unsafeString_ #[102, 3] 9 #[.pointer (some ⟨g, 0, none⟩), .int .i64 l.length]).run Tryd.prog w.drew = .ok (.string ⟨l.toArray⟩) (w.drew.freeze ⟨g, 0, none⟩ l.length) := by
      refine Lib.run_unsafeString_row w.drew 102 3 9 5 Tryd.underlying102 cells5x g cur.size (by have hg' : w.drew.heap[g]? = some (.cells cur 5 (0, 0)) := hg; simp [World.shape?, hg']) l h0 (by omega) (by unfold maxLen at hcm; omega) ?_
      intro j x hx
      have := hown.cells (g := g) rfl j (.int .u8 x.toNat) (by simp [byteCells, hx])
      exact this
    clear hl0 h0 hown hg hnc hcm hcs htake hbk hv
    generalize hs : (⟨l.toArray⟩ : ByteArray) = s at *
    go_enter Tryd.func51, Tryd.ntmps51
    go_wp2
    go_region
    all_goals (go_wp2; go_ret; exact ⟨rfl, Lib.below_freeze (Below.drew (Below.refl B w)) (p := ⟨g, 0, none⟩) hbg _⟩)
end Go.Proofs.YtpamgedmgjfjjaaDoor.M
