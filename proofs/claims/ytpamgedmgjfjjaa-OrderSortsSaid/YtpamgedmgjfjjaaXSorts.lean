/-
The walk of OrderSorts: what is sorted rises, by the contracts of what it calls.
-/
import Derived.Test.YtpamgedmgjfjjaaM8
import Derived.Test.YtpamgedmgjfjjaaXOrder
import Derived.Laws.Cover1
namespace Go.Proofs.Ytpamgedmgjfjjaa.M
open Go.RowKit Go.Proofs.YtpamgedmgjfjjaaW.PrintWords Go.Proofs.YtpamgedmgjfjjaaW.PrintLast Go.Proofs.YtpamgedmgjfjjaaW.PrintMore
set_option linter.unusedVariables false
set_option linter.unusedSimpArgs false

/-- Sixty marks: which places stand in a list. -/
def marks (l : List Int) : Array Value := (Array.range 60).map fun (j : Nat) => .bool (decide ((j : Int) ∈ l))
theorem marks_get (l : List Int) (i : Int) (h0 : 0 ≤ i) (h1 : i < 60) : (marks l)[i.toNat]? = some (.bool (decide (i ∈ l))) := by
  unfold marks
  rw [Array.getElem?_map, Array.getElem?_range, if_pos (by omega)]
  simp [Int.toNat_of_nonneg h0]
theorem marks_set (l : List Int) (i : Int) (h0 : 0 ≤ i) (h1 : i < 60) : (marks l).setIfInBounds i.toNat (.bool true) = marks (l ++ [i]) := by
  apply Array.ext
  · simp [marks]
  · intro j hj hj2
    rw [Array.getElem_setIfInBounds (by simpa [marks] using hj)]
    by_cases h : i.toNat = j
    · subst h
      simp [marks, Int.toNat_of_nonneg h0]
    · have h2 : (j : Int) ≠ i := by omega
      simp [marks, h, h2]

theorem marks_nil : marks [] = #[.bool false, .bool false, .bool false, .bool false, .bool false, .bool false, .bool false, .bool false, .bool false, .bool false, .bool false, .bool false, .bool false, .bool false, .bool false, .bool false, .bool false, .bool false, .bool false, .bool false, .bool false, .bool false, .bool false, .bool false, .bool false, .bool false, .bool false, .bool false, .bool false, .bool false, .bool false, .bool false, .bool false, .bool false, .bool false, .bool false, .bool false, .bool false, .bool false, .bool false, .bool false, .bool false, .bool false, .bool false, .bool false, .bool false, .bool false, .bool false, .bool false, .bool false, .bool false, .bool false, .bool false, .bool false, .bool false, .bool false, .bool false, .bool false, .bool false, .bool false] := by kernel_rfl
/-- The place of a list's k-th is no mark yet. -/
theorem fresh_mark {n : Nat} {a : List Int} (hp : a.Perm (idx n)) (k : Nat) (h : k < a.length) : a[k] ∉ a.take k := by
  intro hm
  obtain ⟨i, hi, he⟩ := List.getElem_of_mem hm
  rw [List.getElem_take] at he
  rw [List.length_take] at hi
  have hn : a.Nodup := hp.nodup_iff.2 (by
    unfold List.Nodup
    exact (idx_lt n).imp (by intro x y h; omega))
  exact (List.pairwise_iff_getElem.1 hn) i k (by omega) h (by omega) he

theorem beq_false {p q : List UInt8} (h : p ≠ q) : (p == q) = false := beq_eq_false_iff_ne.2 h
theorem less_ne {p q : List UInt8} (h : Op.bytesLess p q = true) : p ≠ q := by
  rintro rfl
  rw [bl_irr] at h
  cases h
theorem waysA {p q : ByteArray} {xp x : Int} (h : Op.bytesLess q.toList p.toList = false ∧ (Op.bytesLess p.toList q.toList = true ∨ xp < x)) :
    (Op.bytesLess p.toList q.toList = true ∧ (p.toList == q.toList) = false) ∨ (Op.bytesLess p.toList q.toList = false ∧ (p.toList == q.toList) = true ∧ decide (x < xp) = false) := by
  obtain ⟨h1, h2⟩ := h
  cases h3 : Op.bytesLess p.toList q.toList
  · right
    rw [h3] at h2
    have h4 := h2.resolve_left (by simp)
    exact ⟨rfl, by rw [bl_tri _ _ h3 h1]; simp, decide_eq_false (by omega)⟩
  · exact .inl ⟨rfl, beq_false (less_ne h3)⟩
theorem size_toList (r : ByteArray) : r.toList.length = r.size := by
  rw [ByteArray.toList_eq, Array.length_toList]
  rfl
theorem waysB {r s : ByteArray} {yp y : Int} (h : (decide (s.size < r.size) || (decide (s.size = r.size) && Op.bytesLess s.data.toList r.data.toList)) = false ∧ ((decide (r.size < s.size) || (decide (r.size = s.size) && Op.bytesLess r.data.toList s.data.toList)) = true ∨ yp < y)) :
    (decide ((s.size : Int) < (r.size : Int)) = false ∧ decide ((r.size : Int) = (s.size : Int)) = false ∧ ((r.size : Int) == (s.size : Int)) = false ∧ (r.toList == s.toList) = false) ∨
    (decide ((s.size : Int) < (r.size : Int)) = false ∧ decide ((r.size : Int) = (s.size : Int)) = true ∧ ((r.size : Int) == (s.size : Int)) = true ∧ Op.bytesLess r.toList s.toList = true ∧ (r.toList == s.toList) = false) ∨
    (decide ((s.size : Int) < (r.size : Int)) = false ∧ decide ((r.size : Int) = (s.size : Int)) = true ∧ ((r.size : Int) == (s.size : Int)) = true ∧ Op.bytesLess r.toList s.toList = false ∧ (r.toList == s.toList) = true ∧ decide (y < yp) = false) := by
  obtain ⟨h1, h2⟩ := h
  rw [← ByteArray.toList_eq, ← ByteArray.toList_eq] at h1 h2
  simp only [Bool.or_eq_false_iff, Bool.and_eq_false_iff, decide_eq_false_iff_not, Bool.or_eq_true, Bool.and_eq_true, decide_eq_true_eq] at h1 h2
  by_cases hs : r.size = s.size
  · have e1 : decide ((s.size : Int) < (r.size : Int)) = false := decide_eq_false (by omega)
    have e2 : decide ((r.size : Int) = (s.size : Int)) = true := decide_eq_true (by omega)
    have e3 : ((r.size : Int) == (s.size : Int)) = true := by rw [hs]; simp
    cases h3 : Op.bytesLess r.toList s.toList
    · right; right
      have h4 : Op.bytesLess s.toList r.toList = false := by
        rcases h1.2 with h | h
        · exact absurd hs.symm h
        · exact h
      have h5 : yp < y := by
        rcases h2 with (h | h) | h
        · omega
        · rw [h3] at h
          exact absurd h.2 (by simp)
        · exact h
      exact ⟨e1, e2, e3, rfl, by rw [bl_tri _ _ h3 h4]; simp, decide_eq_false (by omega)⟩
    · exact .inr (.inl ⟨e1, e2, e3, rfl, beq_false (less_ne h3)⟩)
  · refine .inl ⟨decide_eq_false (by omega), decide_eq_false (by omega), beq_eq_false_iff_ne.2 (by omega), beq_false ?_⟩
    intro h
    have := congrArg List.length h
    rw [size_toList, size_toList] at this
    exact hs this

set_option maxHeartbeats 8000000 in
set_option maxRecDepth 100000 in
theorem sorts_few (A0 : Option Addr) (c0 : Nat) (l : List ByteArray) (w : World) (hr0 : Kd.C Kd.string w A0 l.length l) (hc0 : l.length ≤ c0) (F : Nat) (hf : erratumlaw06_few.f F l = some true) (hl : l.length ≤ 60)
    (ha : erratumlaw06_awake.f 10 = some true) :
    Calls Try.prog 6 #[.slice A0 l.length c0] w fun e w' => e = .returned (.bool true) ∧ Below w.heap.size w w' := by
  have HR := Aside0.mk hr0
  have HC := Aside0.mk hc0
  have HF := Aside0.mk hf
  have HAW := Aside0.mk ha
  have HS := Aside0.mk (show order_Sort.f l = some (sortF lessB l) from if_pos (by omega))
  have HT := Aside0.mk (show order_CBOR.f l = some (sortF lessC l) from if_pos (by omega))
  have la := sortF_length lessB l
  have lb := sortF_length lessC l
  have HPA := Aside0.mk (sortF_perm lessB l)
  have HPB := Aside0.mk (sortF_perm lessC l)
  have HAA := Aside0.mk (sortF_ahead lessB l (weakB l) (by omega))
  have HAB := Aside0.mk (sortF_ahead lessC l (weakC l) (by omega))
  clear hr0 hc0 hf ha
  generalize sortF lessB l = a at *
  generalize sortF lessC l = b at *
  go_enter Try.func6, Try.ntmps6
  go_wp2_with (first
    | (go_at_call 16; refine (erratumlaw06_few.calls F A0 c0 l true _ HR.out HC.out HF.out).mono ?_; rintro e w' ⟨rfl, ⟨n1, rfl⟩⟩)
    | (go_at_call 18; refine (order_Sort.calls A0 c0 l a _ (Kd.C_drewN HR.out _) HC.out HS.out).mono ?_; rintro e w1 ⟨v1, rfl, ho, hb⟩; have HO1 := Aside0.mk ho; have HB1 := Aside0.mk (below_step (pw_below_drewN (Below.refl _ _) _) hb); clear ho hb)
    | (go_at_call 19; refine (order_CBOR.calls A0 c0 l b _ (Kd.C_below HR.out HB1.out) HC.out HT.out).mono ?_; rintro e w2 ⟨v2, rfl, ho, hb⟩; obtain ⟨Aa, ca, rfl⟩ := Kd.R_slice HO1.out; obtain ⟨Ab, cb, rfl⟩ := Kd.R_slice ho; have HB2 := Aside0.mk (below_step HB1.out hb); have HCa := Aside0.mk (Kd.R_reads' (Kd.R_below HO1.out hb)).2.2; have HCb := Aside0.mk (Kd.R_reads' ho).2.2; clear ho hb HO1))
  go_loopw [7] (fun v7 wr => ∃ k : Nat, k ≤ l.length ∧ v7 = .int .i64 k ∧ Aside0 (Below w2.heap.size w2 wr) ∧ Aside0 (wr.heap[w2.heap.size]? = some (.cells (marks (a.take k)) 39 (0, 0))) ∧ Aside0 (wr.heap[w2.heap.size + 1]? = some (.cells (marks (b.take k)) 39 (0, 0))))
    (fun v7 _ => l.length - (intOf v7).toNat)
  case atStart =>
    have hm : marks (a.take 0) = marks [] := by simp
    have hm2 : marks (b.take 0) = marks [] := by simp
    refine ⟨0, Nat.zero_le _, rfl, ⟨below_alloc (below_alloc (Below.refl _ _) _) _⟩, ⟨?_⟩, ⟨?_⟩⟩
    · rw [hm, marks_nil]
      exact blk_alloc (blk_new w2 _) _
    · rw [hm2, marks_nil]
      have h := fun o => blk_new (w2.alloc o) o
      simp only [World.size_alloc] at h
      exact h _
  case round =>
    obtain ⟨k, hk, rfl, HBw, H5, H6⟩ := hrel
    by_cases hlt : k < l.length
    · have ma : (a[k]'(by omega)) ∈ idx l.length := HPA.out.mem_iff.1 (List.getElem_mem _)
      have mb : (b[k]'(by omega)) ∈ idx l.length := HPB.out.mem_iff.1 (List.getElem_mem _)
      have fa := fresh_mark HPA.out k (by omega)
      have fb := fresh_mark HPB.out k (by omega)
      have ra : rd a (k : Int) = a[k]'(by omega) := by simp [rd, List.getD_eq_getElem?_getD, la, hlt]
      have rb : rd b (k : Int) = b[k]'(by omega) := by simp [rd, List.getD_eq_getElem?_getD, lb, hlt]
      have sa : a.take (k + 1) = a.take k ++ [rd a (k : Int)] := by rw [ra]; exact List.take_succ_eq_append_getElem (by omega)
      have sb : b.take (k + 1) = b.take k ++ [rd b (k : Int)] := by rw [rb]; exact List.take_succ_eq_append_getElem (by omega)
      rw [← ra] at ma fa
      rw [← rb] at mb fb
      obtain ⟨ada, rfl, hca⟩ := Kd.at_int (Kd.C_below HCa.out HBw.out) (k : Int) (by omega) (by omega)
      obtain ⟨adb, rfl, hcb⟩ := Kd.at_int (Kd.C_below HCb.out HBw.out) (k : Int) (by omega) (by omega)
      rw [Int.toNat_natCast] at hca hcb
      obtain ⟨hx0, hx1⟩ := mem_idx.1 ma
      obtain ⟨hy0, hy1⟩ := mem_idx.1 mb
      have SA := Aside0.mk sa
      have SB := Aside0.mk sb
      have RA := Aside0.mk ra
      have RB := Aside0.mk rb
      clear sa sb ra rb ma mb
      obtain ⟨x, hx⟩ : ∃ x, rd a (k : Int) = x := ⟨_, rfl⟩
      obtain ⟨y, hy⟩ : ∃ y, rd b (k : Int) = y := ⟨_, rfl⟩
      rw [hx] at hca hx0 hx1 fa SA RA
      rw [hy] at hcb hy0 hy1 fb SB RB
      have HXE := Aside0.mk hx
      have HYE := Aside0.mk hy
      have hma : wr.cell? ⟨w2.heap.size, x.toNat, none⟩ = some (.bool false) := by rw [blk_cell H5.out, marks_get _ x hx0 (by omega), decide_eq_false fa]
      have hmb : wr.cell? ⟨w2.heap.size + 1, y.toNat, none⟩ = some (.bool false) := by rw [blk_cell H6.out, marks_get _ y hy0 (by omega), decide_eq_false fb]
      clear hx hy fa fb
      have d1 : decide (x < 0) = false := decide_eq_false (by omega)
      have d2 : decide ((l.length : Int) ≤ x) = false := decide_eq_false (by omega)
      have d3 : decide (y < 0) = false := decide_eq_false (by omega)
      have d4 : decide ((l.length : Int) ≤ y) = false := decide_eq_false (by omega)
      go_wp2
      have hx60 : x < 60 := by omega
      have hy60 : y < 60 := by omega
      have B5 := Aside0.mk (below_set (v := .bool true) (j := x.toNat) HBw.out (Nat.le_refl w2.heap.size))
      have B6 := Aside0.mk (below_set (v := .bool true) (j := y.toNat) HBw.out (Nat.le_succ w2.heap.size))
      have G5 := Aside0.mk (blk_set H5.out x.toNat (.bool true))
      have G6 := Aside0.mk (blk_set H6.out y.toNat (.bool true))
      have G56 := Aside0.mk (blk_far H6.out (p := ⟨w2.heap.size, x.toNat, none⟩) (by simp) (.bool true))
      have G65 := Aside0.mk (blk_far H5.out (p := ⟨w2.heap.size + 1, y.toNat, none⟩) (by simp) (.bool true))
      have hfa : wr.frozen? ⟨w2.heap.size, x.toNat, none⟩ = false := blk_frozen H5.out _
      have hfb : wr.frozen? ⟨w2.heap.size + 1, y.toNat, none⟩ = false := blk_frozen H6.out _
      have hfa2 : (wr.setCell ⟨w2.heap.size + 1, y.toNat, none⟩ (.bool true)).frozen? ⟨w2.heap.size, x.toNat, none⟩ = false := blk_frozen G65.out _
      have hfb2 : (wr.setCell ⟨w2.heap.size, x.toNat, none⟩ (.bool true)).frozen? ⟨w2.heap.size + 1, y.toNat, none⟩ = false := blk_frozen G56.out _
      have hma2 : (wr.setCell ⟨w2.heap.size + 1, y.toNat, none⟩ (.bool true)).cell? ⟨w2.heap.size, x.toNat, none⟩ = some (.bool false) := by rw [← hma, blk_cell H5.out]; exact blk_cell G65.out _
      have hmb2 : (wr.setCell ⟨w2.heap.size, x.toNat, none⟩ (.bool true)).cell? ⟨w2.heap.size + 1, y.toNat, none⟩ = some (.bool false) := by rw [← hmb, blk_cell H6.out]; exact blk_cell G56.out _
      have hcell : ∀ W : World, Below w2.heap.size w2 W → W.cell? (ada.add k) = some (.int .i64 x) ∧ W.cell? (adb.add k) = some (.int .i64 y) := by
        intro W hW
        obtain ⟨a1, e1, h1⟩ := Kd.at_int (Kd.C_below HCa.out hW) (k : Int) (by omega) (by omega)
        obtain ⟨a2, e2, h2⟩ := Kd.at_int (Kd.C_below HCb.out hW) (k : Int) (by omega) (by omega)
        injection e1 with e1
        injection e2 with e2
        subst e1
        subst e2
        rw [Int.toNat_natCast] at h1 h2
        rw [HXE.out] at h1
        rw [HYE.out] at h2
        exact ⟨h1, h2⟩
      obtain ⟨q1, q2⟩ := hcell _ B5.out
      obtain ⟨q3, q4⟩ := hcell _ B6.out
      go_cut [93] (fun v93 wc => Aside0 (Below w2.heap.size w2 wc) ∧ Aside0 (wc.heap[w2.heap.size]? = some (.cells (marks (a.take (k + 1))) 39 (0, 0))) ∧ Aside0 (wc.heap[w2.heap.size + 1]? = some (.cells (marks (b.take (k + 1))) 39 (0, 0))))
      case first =>
        go_region
        all_goals
          (try go_wp2)
          go_meet
          case rel =>
            have e5 : (marks (a.take k)).setIfInBounds x.toNat (.bool true) = marks (a.take (k + 1)) := by rw [SA.out]; exact marks_set _ x hx0 hx60
            have e6 : (marks (b.take k)).setIfInBounds y.toNat (.bool true) = marks (b.take (k + 1)) := by rw [SB.out]; exact marks_set _ y hy0 hy60
            rw [← e5, ← e6]
            first
              | exact ⟨⟨below_drew (below_set B5.out (Nat.le_succ _))⟩, ⟨blk_far G5.out (by simp) _⟩, ⟨blk_set G56.out _ _⟩⟩
              | exact ⟨⟨below_drew (below_set B6.out (Nat.le_refl _))⟩, ⟨blk_set G65.out _ _⟩, ⟨blk_far G6.out (by simp) _⟩⟩
              | exact ⟨⟨below_set B5.out (Nat.le_succ _)⟩, ⟨blk_far G5.out (by simp) _⟩, ⟨blk_set G56.out _ _⟩⟩
              | exact ⟨⟨below_set B6.out (Nat.le_refl _)⟩, ⟨blk_set G65.out _ _⟩, ⟨blk_far G6.out (by simp) _⟩⟩
      case rest =>
        obtain ⟨HBc, H5c, H6c⟩ := hcut
        clear B5 B6 G5 G6 G56 G65 hfa hfb hfa2 hfb2 hma hmb hma2 hmb2 q1 q2 q3 q4 hca hcb H5 H6 HBw
        by_cases hk0 : k = 0
        · subst hk0
          go_wp2
          go_roundw
          case rel => exact ⟨1, by omega, by go_num, HBc, H5c, H6c⟩
          case measure => simp [intOf]; omega
        · have k0 : decide ((k : Int) = 0) = false := decide_eq_false (by omega)
          have k1 : ((k : Int) == 0) = false := beq_eq_false_iff_ne.2 (by omega)
          have hkm : (((k : Int) - 1).toNat) = k - 1 := by omega
          have ra1 : rd a ((k : Int) - 1) = a[k - 1]'(by omega) := by simp [rd, List.getD_eq_getElem?_getD, la, hkm, show k - 1 < l.length by omega]
          have rb1 : rd b ((k : Int) - 1) = b[k - 1]'(by omega) := by simp [rd, List.getD_eq_getElem?_getD, lb, hkm, show k - 1 < l.length by omega]
          have hA : Ahead (ltOf lessB l) (rd a ((k : Int) - 1)) x := by rw [ra1, RA.out]; exact List.pairwise_iff_getElem.1 HAA.out (k - 1) k (by omega) (by omega) (by omega)
          have hB : Ahead (ltOf lessC l) (rd b ((k : Int) - 1)) y := by rw [rb1, RB.out]; exact List.pairwise_iff_getElem.1 HAB.out (k - 1) k (by omega) (by omega) (by omega)
          have ma1 : rd a ((k : Int) - 1) ∈ idx l.length := by rw [ra1]; exact HPA.out.mem_iff.1 (List.getElem_mem _)
          have mb1 : rd b ((k : Int) - 1) ∈ idx l.length := by rw [rb1]; exact HPB.out.mem_iff.1 (List.getElem_mem _)
          obtain ⟨hxp0, hxp1⟩ := mem_idx.1 ma1
          obtain ⟨hyp0, hyp1⟩ := mem_idx.1 mb1
          have hca1 : wc.cell? (ada.add ((k : Int) - 1).toNat) = some (.int .i64 (rd a ((k : Int) - 1))) := by
            obtain ⟨a1, e1, h1⟩ := Kd.at_int (Kd.C_below HCa.out HBc.out) ((k : Int) - 1) (by omega) (by omega)
            injection e1 with e1
            subst e1
            exact h1
          have hcb1 : wc.cell? (adb.add ((k : Int) - 1).toNat) = some (.int .i64 (rd b ((k : Int) - 1))) := by
            obtain ⟨a1, e1, h1⟩ := Kd.at_int (Kd.C_below HCb.out HBc.out) ((k : Int) - 1) (by omega) (by omega)
            injection e1 with e1
            subst e1
            exact h1
          obtain ⟨hca2, hcb2⟩ := hcell wc HBc.out
          have HRc := Aside0.mk (Kd.C_below (Kd.C_below HR.out HB2.out) HBc.out)
          generalize rd a ((k : Int) - 1) = xp at *
          generalize rd b ((k : Int) - 1) = yp at *
          obtain ⟨adl, rfl, hs1⟩ := Kd.at_string HRc.out xp hxp0 hxp1
          have hss : ∀ i : Int, 0 ≤ i → i < l.length → wc.cell? (adl.add i.toNat) = some (.string (rdOf ByteArray.empty l i)) := by
            intro i h0 h1
            obtain ⟨a1, e1, h1⟩ := Kd.at_string HRc.out i h0 h1
            injection e1 with e1
            subst e1
            exact h1
          have hs2 := hss x hx0 hx1
          have hs3 := hss yp hyp0 hyp1
          have hs4 := hss y hy0 hy1
          unfold Ahead ltOf lessB at hA
          unfold Ahead ltOf at hB
          rw [lessC_eq, lessC_eq] at hB
          generalize rdOf ByteArray.empty l xp = p at *
          generalize rdOf ByteArray.empty l x = q at *
          generalize rdOf ByteArray.empty l yp = r at *
          generalize rdOf ByteArray.empty l y = s at *
          have HA := Aside0.mk hA
          have HB := Aside0.mk hB
          have hca3 := hca1
          have hcb3 := hcb1
          rw [hkm] at hca3 hcb3
          clear hA hB ra1 rb1 ma1 mb1 hss hcell hkm
          go_wp2
          go_quiet (fail)
          go_wp2
          go_quiet (fail)
          go_wp2
          rcases waysA HA.out with ⟨u1, u2⟩ | ⟨u1, u2, u3⟩
          all_goals
            rcases waysB HB.out with ⟨v1, v2, v3, v4⟩ | ⟨v1, v2, v3, v4, v5⟩ | ⟨v1, v2, v3, v4, v5, v6⟩
            all_goals
              have z1 : r.size ≤ s.size := by have := of_decide_eq_false v1; omega
              have y1 : decide (s.size < r.size) = false := decide_eq_false (by omega)
              (try have y2 : decide (r.size = s.size) = false := decide_eq_false (by have := of_decide_eq_false v2; omega))
              (try have y2 : decide (r.size = s.size) = true := decide_eq_true (by have := of_decide_eq_true v2; omega))
              (try have y3 : (r.size == s.size) = false := beq_eq_false_iff_ne.2 (of_decide_eq_false y2))
              (try have y3 : (r.size == s.size) = true := beq_iff_eq.2 (of_decide_eq_true y2))
              (try have y4 : decide (xp ≤ x) = true := decide_eq_true (by have := of_decide_eq_false u3; omega))
              (try have y5 : decide (yp ≤ y) = true := decide_eq_true (by have := of_decide_eq_false v6; omega))
              go_quiet (fail)
              all_goals
                (try go_wp2)
                go_roundw
                case rel => exact ⟨k + 1, by omega, by go_num, ⟨by repeat (first | exact HBc.out | apply pw_below_drewN | apply below_drew)⟩, H5c, H6c⟩
                case measure => simp [intOf]; omega
    · obtain rfl : k = l.length := by omega
      go_wp2_with (go_at_call 17; refine (erratumlaw06_awake.calls 10 true _ HAW.out).mono ?_; rintro e w3 ⟨rfl, hb⟩; have HB3 := Aside0.mk (below_step (below_step HB2.out HBw.out) hb); clear hb)
      go_ret
      exact ⟨rfl, HB3.out⟩
/-- few answers. -/
theorem few_some (l : List ByteArray) : ∀ (d j F : Nat), 60 - j = d → j ≤ 60 → j ≤ l.length → ∃ r, erratumlaw06_few.l0 (F + 2 + 2 * d) l (j : Int) = some r ∧ (r = true → l.length ≤ 60)
  | d, j, F, hd, hj, hl => by
    by_cases h1 : j < l.length
    · by_cases h2 : j < 60
      · obtain ⟨d2, rfl⟩ : ∃ d2, d = d2 + 1 := ⟨d - 1, by omega⟩
        rw [show F + 2 + 2 * (d2 + 1) = (F + 2 + 2 * d2 + 1) + 1 by omega, erratumlaw06_few.l0, if_pos (by omega), decide_eq_true (by omega), erratumlaw06_few.j1, if_pos rfl, if_pos (by omega), if_pos (by omega)]
        split
        · exact ⟨false, rfl, by simp⟩
        · have ih := few_some l d2 (j + 1) F (by omega) (by omega) (by omega)
          rw [show wrap64 ((j : Int) + 1) = ((j + 1 : Nat) : Int) by unfold wrap64; omega]
          exact ih
      · rw [show F + 2 + 2 * d = (F + 2 * d + 1) + 1 by omega, erratumlaw06_few.l0, if_pos (by omega), decide_eq_false (by omega), erratumlaw06_few.j1, if_neg (by simp)]
        exact ⟨_, rfl, by simp; omega⟩
    · rw [show F + 2 + 2 * d = (F + 2 * d + 1) + 1 by omega, erratumlaw06_few.l0, if_neg (by omega), erratumlaw06_few.j1, if_neg (by simp)]
      exact ⟨_, rfl, by simp; omega⟩
  termination_by d => d
set_option maxHeartbeats 1000000 in
set_option maxRecDepth 100000 in
theorem sorts_many (A0 : Option Addr) (c0 : Nat) (l : List ByteArray) (w : World) (hr0 : Kd.C Kd.string w A0 l.length l) (hc0 : l.length ≤ c0) (F : Nat) (hf : erratumlaw06_few.f F l = some false)
    (ha : erratumlaw06_awake.f 10 = some true) :
    Calls Try.prog 6 #[.slice A0 l.length c0] w fun e w' => e = .returned (.bool true) ∧ Below w.heap.size w w' := by
  have HR := Aside0.mk hr0
  have HC := Aside0.mk hc0
  have HF := Aside0.mk hf
  have HAW := Aside0.mk ha
  clear hr0 hc0 hf ha
  go_enter Try.func6, Try.ntmps6
  go_wp2_with (first
    | (go_at_call 16; refine (erratumlaw06_few.calls F A0 c0 l false _ HR.out HC.out HF.out).mono ?_; rintro e w' ⟨rfl, ⟨n1, rfl⟩⟩)
    | (go_at_call 17; refine (erratumlaw06_awake.calls 10 true _ HAW.out).mono ?_; rintro e w3 ⟨rfl, hb⟩; have HB3 := Aside0.mk (below_step (pw_below_drewN (Below.refl _ _) _) hb); clear hb))
  go_ret
  exact ⟨rfl, HB3.out⟩
/-- OrderSorts answers true, and writes nothing that was there. -/
theorem sorts_all (A0 : Option Addr) (c0 : Nat) (l : List ByteArray) (w : World) (hr0 : Kd.C Kd.string w A0 l.length l) (hc0 : l.length ≤ c0) (ha : erratumlaw06_awake.f 10 = some true) :
    Calls Try.prog 6 #[.slice A0 l.length c0] w fun e w' => e = .returned (.bool true) ∧ Below w.heap.size w w' := by
  obtain ⟨r, hr, hl⟩ := few_some l 60 0 8 rfl (by omega) (by omega)
  cases r
  · exact sorts_many A0 c0 l w hr0 hc0 _ hr ha
  · exact sorts_few A0 c0 l w hr0 hc0 _ hr (hl rfl) ha
end Go.Proofs.Ytpamgedmgjfjjaa.M
