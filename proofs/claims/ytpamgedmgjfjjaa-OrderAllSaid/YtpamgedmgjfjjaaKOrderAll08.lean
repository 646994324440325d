/-
Lemmas for OrderAll, for every input they speak of: XCmp, XSort.
-/
import Derived.Test.YtpamgedmgjfjjaaKOrderAll06
import Derived.Test.YtpamgedmgjfjjaaKOrderAll07
section
namespace Go.Proofs.Ytpamgedmgjfjjaa.M
open Go.RowKit Go.Proofs.YtpamgedmgjfjjaaW.PrintWords Go.Proofs.YtpamgedmgjfjjaaW.PrintLast Go.Proofs.YtpamgedmgjfjjaaW.PrintMore
set_option linter.unusedVariables false
set_option linter.unusedSimpArgs false
def lessB (a b : ByteArray) : Bool := Op.bytesLess a.toList b.toList
theorem cmp30 : CmpAll 30 lessB := fun W a b => (order_Less.calls a b _ W rfl).mono fun e w' ⟨h1, n, h2⟩ => ⟨h1, by subst h2; exact pw_below_drewN (Below.refl _ _) n⟩
def cmpI (a b : Int) : Int := if a < b then -1 else if a > b then 1 else 0
def orI (a b : Int) : Int := if a = 0 then b else a
def lessC (a b : ByteArray) : Bool := decide (orI (cmpI a.size b.size) (Lib.compareBytes a.data.toList b.data.toList) < 0)
theorem cmpI_eq (a b : Int) : cmp_Compare_int.f a b = some (cmpI a b) := by
  unfold cmp_Compare_int.f cmp_isNaN_int.f cmpI
  (repeat' split) <;> first | rfl | simp_all
theorem orI_eq (a b : Int) : cmp_Or_int.f 3 [a, b] = some (orI a b) := by
  have w1 : wrap64 1 = 1 := by kernel_rfl
  have w2 : wrap64 2 = 2 := by kernel_rfl
  unfold cmp_Or_int.f orI
  by_cases ha : a = 0
  · by_cases hb : b = 0
    · simp [cmp_Or_int.l0, rd, ha, hb, w1, w2]
    · simp [cmp_Or_int.l0, rd, ha, hb, w1, w2]
  · simp [cmp_Or_int.l0, rd, ha, w1, w2]
set_option maxHeartbeats 1000000 in
set_option maxRecDepth 100000 in
theorem cmp37 : CmpAll 37 lessC := by
  intro W a b
  have H1 := Aside0.mk (cmpI_eq a.size b.size)
  have H2 := Aside0.mk (orI_eq (cmpI a.size b.size) (Lib.compareBytes a.data.toList b.data.toList))
  unfold lessC
  generalize cmpI a.size b.size = x at *
  generalize hy : Lib.compareBytes a.data.toList b.data.toList = y at *
  generalize orI x y = z at *
  have HY := Aside0.mk hy
  clear hy
  go_enter Try.func37, Try.ntmps37
  go_wp2_with (first
    | (go_at_call 39; refine (cmp_Compare_int.calls _ _ _ _ H1.out).mono ?_; rintro e w1 ⟨rfl, ⟨n1, rfl⟩⟩)
    | (go_at_call 40; refine (Try.strings_Compare a b _).mono ?_; rw [HY.out]; rintro e w2 ⟨rfl, rfl⟩)
    | (go_at_call 38; refine (cmp_Or_int.calls 3 (some ⟨(W.drewN n1).heap.size, 0, none⟩) 2 [x, y] z _ ?h1 (by simp) H2.out).mono ?_; (case h1 => exact (Kd.R_reads' (Kd.R_of_own (ok := fun _ => True) (h1 := fun _ => rfl) (by simpa [nums, encs] using own_lit (W.drewN n1) 0 3 .i64 [x, y] (Nat.zero_le _) (by simp)) (fun _ _ => trivial))).2.2); rintro e w3 ⟨rfl, ⟨n2, rfl⟩⟩))
  go_ret
  exact ⟨rfl, pw_below_drewN (below_alloc (pw_below_drewN (Below.refl _ _) _) _) _⟩
end Go.Proofs.Ytpamgedmgjfjjaa.M
end
section
namespace Go.Proofs.Ytpamgedmgjfjjaa.M
open Go.RowKit Go.Proofs.YtpamgedmgjfjjaaW.PrintWords Go.Proofs.YtpamgedmgjfjjaaW.PrintLast Go.Proofs.YtpamgedmgjfjjaaW.PrintMore
set_option linter.unusedVariables false
set_option linter.unusedSimpArgs false
def fillL (n k : Nat) : List Int := (List.range k).map (fun (i : Nat) => (i : Int)) ++ List.replicate (n - k) 0
theorem fillL_zero (n : Nat) : fillL n 0 = List.replicate n 0 := by simp [fillL]
theorem fillL_full (n : Nat) : fillL n n = (List.range n).map (fun (i : Nat) => (i : Int)) := by simp [fillL]
theorem fillL_set (n k : Nat) (h : k < n) : (fillL n k).set k (k : Int) = fillL n (k + 1) := by
  unfold fillL
  rw [List.set_append_right _ _ (by simp), List.range_succ]
  obtain ⟨m, hm⟩ : ∃ m, n - k = m + 1 := ⟨n - k - 1, by omega⟩
  have : n - (k + 1) = m := by omega
  rw [hm, this, List.replicate_succ]
  simp
theorem fillL_inR (n k : Nat) (h : k ≤ n) (hn : 0 < n) : InR (n : Int) (fillL n k) := by
  intro x hx
  unfold fillL at hx
  rw [List.mem_append] at hx
  rcases hx with hx | hx
  · obtain ⟨i, hi, rfl⟩ := List.mem_map.1 hx
    rw [List.mem_range] at hi
    constructor <;> omega
  · have := List.eq_of_mem_replicate hx
    subst this
    constructor <;> omega
def sortF (less : ByteArray → ByteArray → Bool) (l : List ByteArray) : List Int := sortedL (ltOf less l) 20 ((List.range l.length).map (fun (i : Nat) => (i : Int)))
set_option maxHeartbeats 4000000 in
set_option maxRecDepth 100000 in
theorem places_calls30 (less : ByteArray → ByteArray → Bool) (hcmp : CmpAll 30 less) (A : Option Addr) (c : Nat) (l : List ByteArray) (w : World) (hr : Kd.C Kd.string w A l.length l) (hc : l.length ≤ c) (hlen : l.length ≤ 1000000) :
    Calls Try.prog 36 #[.slice A l.length c, .func (.func 30) #[] #[]] w fun e w' => ∃ v0_ : Value, e = .returned v0_ ∧ Kd.R (Kd.int .i64) 3 w' w.heap.size (fun _ => True) v0_ (sortF less l) ∧ Below w.heap.size w w' := by
  have HR := Aside0.mk hr
  have HC := Aside0.mk hc
  have HCMP := Aside0.mk hcmp
  have HB := Aside0.mk (Below.refl w.heap.size w)
  have hmk := print_make (P := Try.prog) 37 3 .i64 8 Try.underlying37 info3x (by decide) l.length (by omega)
  clear hr hc hcmp
  go_enter Try.func36, Try.ntmps36
  go_wp2
  go_loopw [12] (fun i wr => ∃ k : Nat, k ≤ l.length ∧ i = .int .i64 k ∧ Aside0 (Below w.heap.size w wr) ∧ Aside0 (wr.heap[w.heap.size]? = some (.cells #[.slice A l.length c] 35 (0, 0))) ∧ Aside0 (wr.heap[w.heap.size + 1]? = some (.cells #[.func (.func 30) #[] #[]] 55 (0, 0)))
      ∧ Aside0 (Kd.R (Kd.int .i64) 3 wr w.heap.size (fun k => w.heap.size + 1 + 1 ≤ k) (.slice (some ⟨w.heap.size + 1 + 1, 0, none⟩) l.length l.length) (fillL l.length k)))
    (fun i _ => l.length - (intOf i).toNat)
  case atStart =>
    refine ⟨0, Nat.zero_le _, rfl, ⟨by repeat (first | exact Below.refl _ _ | apply below_alloc)⟩, ⟨?_⟩, ⟨?_⟩, ⟨?_⟩⟩
    · exact blk_alloc (blk_alloc (blk_new w _) _) _
    · have h := blk_alloc (blk_new (w.alloc (.cells #[.slice A l.length c] 35)) (.cells #[.func (.func 30) #[] #[]] 55)) (.cells (madeCells #[.int .i64 0] l.length) 3)
      simpa using h
    · rw [fillL_zero]
      have h := own_made' ((w.alloc (.cells #[.slice A l.length c] 35)).alloc (.cells #[.func (.func 30) #[] #[]] 55)) w.heap.size 3 .i64 l.length (by simp; omega) (by omega)
      refine Kd.R_of_own ?_ ?_
      · simpa [nums, encs] using h
      · intro k hk
        simp [Value.ownBlock] at hk
        omega
  case round =>
    obtain ⟨k, hk, rfl, HB1, H2, H3, HO⟩ := hrel
    by_cases hlt : k < l.length
    · obtain ⟨hcell, hfr⟩ := Kd.R_celln (0 : Int) HO.out (k : Int) (by omega) (by omega)
      rw [Int.toNat_natCast] at hcell hfr
      go_wp2
      go_roundw
      case rel =>
        have hP := Kd.R_putn HO.out (k : Int) (k : Int)
        rw [Int.toNat_natCast, fillL_set l.length k hlt] at hP
        exact ⟨k + 1, by omega, by go_num, ⟨below_set HB1.out (by omega)⟩, ⟨blk_far H2.out (by simp; omega) _⟩, ⟨blk_far H3.out (by simp) _⟩, ⟨hP⟩⟩
      case measure => simp [intOf]; omega
    · obtain rfl : k = l.length := by omega
      have hL := Aside0.mk (closure_calls30 less HCMP.out wr w.heap.size (w.heap.size + 1) A l c (fun W hW => (hW.cell (blk_lt H2.out)).trans (blk_cell H2.out 0)) (fun W hW => (hW.cell (blk_lt H3.out)).trans (blk_cell H3.out 0)) (Kd.C_below HR.out HB1.out) HC.out)
      have hR0 := (Kd.R_reads' HO.out).2.2
      have hRR := HO.out
      rw [fillL_full] at hR0 hRR
      have HS := Aside0.mk (sorted_calls wr w.heap.size (w.heap.size + 1) (l.length : Int) (ltOf less l) hL 20 wr (Below.refl _ _) (some ⟨w.heap.size + 1 + 1, 0, none⟩) l.length ((List.range l.length).map (fun (i : Nat) => (i : Int))) (by simp; omega) (by
        rcases Nat.eq_zero_or_pos l.length with h0 | h0
        · rw [h0]
          intro x hx
          simp at hx
        · rw [← fillL_full]
          exact fillL_inR _ _ (Nat.le_refl _) h0) hR0 (by simp) (by simpa using hlen))
      have hll : ((List.range l.length).map (fun (i : Nat) => (i : Int))).length = l.length := by simp
      have HRR := Aside0.mk hRR
      have HSF := Aside0.mk (show sortF less l = sortedL (ltOf less l) 20 ((List.range l.length).map (fun (i : Nat) => (i : Int))) from rfl)
      have HSH := Aside0.mk (sortedL_short (ltOf less l) 20 ((List.range l.length).map (fun (i : Nat) => (i : Int))))
      rw [hll] at HS
      clear hL hR0 hRR H2 H3 HO hlt HCMP
      generalize (List.range l.length).map (fun (i : Nat) => (i : Int)) = l1 at *
      generalize sortedL (ltOf less l) 20 l1 = r at *
      go_wp2_with (go_at_call 47; refine HS.out.mono ?_; rintro e w1 ⟨A1, c1, rfl, hc1, hC1, hd, hb⟩; have HD1 := Aside0.mk hd; have HB2 := Aside0.mk (below_step HB1.out hb); have HB3 := Aside0.mk hb; have HC1 := Aside0.mk hC1; clear hd hb hC1 hc1 HS)
      go_ret
      rw [HSF.out]
      refine ⟨_, rfl, ?_, HB2.out⟩
      rcases HD1.out with ⟨h2, rfl, rfl⟩ | h2
      · have hrr := HSH.out (by omega)
        subst hrr
        have h := Kd.R_below HRR.out HB3.out
        exact ⟨fun _ _ => trivial, by rw [hll]; exact h.2⟩
      · exact Kd.R_lower h2 (below_size HB1.out)
set_option maxHeartbeats 4000000 in
set_option maxRecDepth 100000 in
theorem places_calls37 (less : ByteArray → ByteArray → Bool) (hcmp : CmpAll 37 less) (A : Option Addr) (c : Nat) (l : List ByteArray) (w : World) (hr : Kd.C Kd.string w A l.length l) (hc : l.length ≤ c) (hlen : l.length ≤ 1000000) :
    Calls Try.prog 36 #[.slice A l.length c, .func (.func 37) #[] #[]] w fun e w' => ∃ v0_ : Value, e = .returned v0_ ∧ Kd.R (Kd.int .i64) 3 w' w.heap.size (fun _ => True) v0_ (sortF less l) ∧ Below w.heap.size w w' := by
  have HR := Aside0.mk hr
  have HC := Aside0.mk hc
  have HCMP := Aside0.mk hcmp
  have HB := Aside0.mk (Below.refl w.heap.size w)
  have hmk := print_make (P := Try.prog) 37 3 .i64 8 Try.underlying37 info3x (by decide) l.length (by omega)
  clear hr hc hcmp
  go_enter Try.func36, Try.ntmps36
  go_wp2
  go_loopw [12] (fun i wr => ∃ k : Nat, k ≤ l.length ∧ i = .int .i64 k ∧ Aside0 (Below w.heap.size w wr) ∧ Aside0 (wr.heap[w.heap.size]? = some (.cells #[.slice A l.length c] 35 (0, 0))) ∧ Aside0 (wr.heap[w.heap.size + 1]? = some (.cells #[.func (.func 37) #[] #[]] 55 (0, 0)))
      ∧ Aside0 (Kd.R (Kd.int .i64) 3 wr w.heap.size (fun k => w.heap.size + 1 + 1 ≤ k) (.slice (some ⟨w.heap.size + 1 + 1, 0, none⟩) l.length l.length) (fillL l.length k)))
    (fun i _ => l.length - (intOf i).toNat)
  case atStart =>
    refine ⟨0, Nat.zero_le _, rfl, ⟨by repeat (first | exact Below.refl _ _ | apply below_alloc)⟩, ⟨?_⟩, ⟨?_⟩, ⟨?_⟩⟩
    · exact blk_alloc (blk_alloc (blk_new w _) _) _
    · have h := blk_alloc (blk_new (w.alloc (.cells #[.slice A l.length c] 35)) (.cells #[.func (.func 37) #[] #[]] 55)) (.cells (madeCells #[.int .i64 0] l.length) 3)
      simpa using h
    · rw [fillL_zero]
      have h := own_made' ((w.alloc (.cells #[.slice A l.length c] 35)).alloc (.cells #[.func (.func 37) #[] #[]] 55)) w.heap.size 3 .i64 l.length (by simp; omega) (by omega)
      refine Kd.R_of_own ?_ ?_
      · simpa [nums, encs] using h
      · intro k hk
        simp [Value.ownBlock] at hk
        omega
  case round =>
    obtain ⟨k, hk, rfl, HB1, H2, H3, HO⟩ := hrel
    by_cases hlt : k < l.length
    · obtain ⟨hcell, hfr⟩ := Kd.R_celln (0 : Int) HO.out (k : Int) (by omega) (by omega)
      rw [Int.toNat_natCast] at hcell hfr
      go_wp2
      go_roundw
      case rel =>
        have hP := Kd.R_putn HO.out (k : Int) (k : Int)
        rw [Int.toNat_natCast, fillL_set l.length k hlt] at hP
        exact ⟨k + 1, by omega, by go_num, ⟨below_set HB1.out (by omega)⟩, ⟨blk_far H2.out (by simp; omega) _⟩, ⟨blk_far H3.out (by simp) _⟩, ⟨hP⟩⟩
      case measure => simp [intOf]; omega
    · obtain rfl : k = l.length := by omega
      have hL := Aside0.mk (closure_calls37 less HCMP.out wr w.heap.size (w.heap.size + 1) A l c (fun W hW => (hW.cell (blk_lt H2.out)).trans (blk_cell H2.out 0)) (fun W hW => (hW.cell (blk_lt H3.out)).trans (blk_cell H3.out 0)) (Kd.C_below HR.out HB1.out) HC.out)
      have hR0 := (Kd.R_reads' HO.out).2.2
      have hRR := HO.out
      rw [fillL_full] at hR0 hRR
      have HS := Aside0.mk (sorted_calls wr w.heap.size (w.heap.size + 1) (l.length : Int) (ltOf less l) hL 20 wr (Below.refl _ _) (some ⟨w.heap.size + 1 + 1, 0, none⟩) l.length ((List.range l.length).map (fun (i : Nat) => (i : Int))) (by simp; omega) (by
        rcases Nat.eq_zero_or_pos l.length with h0 | h0
        · rw [h0]
          intro x hx
          simp at hx
        · rw [← fillL_full]
          exact fillL_inR _ _ (Nat.le_refl _) h0) hR0 (by simp) (by simpa using hlen))
      have hll : ((List.range l.length).map (fun (i : Nat) => (i : Int))).length = l.length := by simp
      have HRR := Aside0.mk hRR
      have HSF := Aside0.mk (show sortF less l = sortedL (ltOf less l) 20 ((List.range l.length).map (fun (i : Nat) => (i : Int))) from rfl)
      have HSH := Aside0.mk (sortedL_short (ltOf less l) 20 ((List.range l.length).map (fun (i : Nat) => (i : Int))))
      rw [hll] at HS
      clear hL hR0 hRR H2 H3 HO hlt HCMP
      generalize (List.range l.length).map (fun (i : Nat) => (i : Int)) = l1 at *
      generalize sortedL (ltOf less l) 20 l1 = r at *
      go_wp2_with (go_at_call 47; refine HS.out.mono ?_; rintro e w1 ⟨A1, c1, rfl, hc1, hC1, hd, hb⟩; have HD1 := Aside0.mk hd; have HB2 := Aside0.mk (below_step HB1.out hb); have HB3 := Aside0.mk hb; have HC1 := Aside0.mk hC1; clear hd hb hC1 hc1 HS)
      go_ret
      rw [HSF.out]
      refine ⟨_, rfl, ?_, HB2.out⟩
      rcases HD1.out with ⟨h2, rfl, rfl⟩ | h2
      · have hrr := HSH.out (by omega)
        subst hrr
        have h := Kd.R_below HRR.out HB3.out
        exact ⟨fun _ _ => trivial, by rw [hll]; exact h.2⟩
      · exact Kd.R_lower h2 (below_size HB1.out)
def order_Sort.f (l0 : List ByteArray) : Option (List Int) := if l0.length ≤ 1000000 then some (sortF lessB l0) else none
set_option maxHeartbeats 1000000 in
set_option maxRecDepth 100000 in
theorem order_Sort.calls (A0 : Option Addr) (c0 : Nat) (l0 : List ByteArray) (r : List Int) (w : World) (hr0 : Kd.C Kd.string w A0 l0.length l0) (hc0 : l0.length ≤ c0) (h : order_Sort.f l0 = some r) :
    Calls Try.prog 18 #[.slice A0 l0.length c0] w fun e w' => ∃ v0_ : Value, e = .returned (v0_) ∧ Kd.R (Kd.int .i64) 3 w' w.heap.size (fun _ => True) v0_ r ∧ Below w.heap.size w w' := by
  unfold order_Sort.f at h
  split at h
  case isFalse => cases h
  rename_i hl
  injection h with h
  subst h
  have HM := Aside0.mk (places_calls30 lessB cmp30 A0 c0 l0 w hr0 hc0 hl)
  clear hr0
  go_enter Try.func18, Try.ntmps18
  go_wp2_with (go_at_call 36; refine HM.out.mono ?_; rintro e w1 ⟨v1, rfl, ho, hb⟩; have HO1 := Aside0.mk ho; have HB1 := Aside0.mk hb; clear ho hb)
  go_ret
  exact ⟨_, rfl, HO1.out, HB1.out⟩
def order_CBOR.f (l0 : List ByteArray) : Option (List Int) := if l0.length ≤ 1000000 then some (sortF lessC l0) else none
set_option maxHeartbeats 1000000 in
set_option maxRecDepth 100000 in
theorem order_CBOR.calls (A0 : Option Addr) (c0 : Nat) (l0 : List ByteArray) (r : List Int) (w : World) (hr0 : Kd.C Kd.string w A0 l0.length l0) (hc0 : l0.length ≤ c0) (h : order_CBOR.f l0 = some r) :
    Calls Try.prog 19 #[.slice A0 l0.length c0] w fun e w' => ∃ v0_ : Value, e = .returned (v0_) ∧ Kd.R (Kd.int .i64) 3 w' w.heap.size (fun _ => True) v0_ r ∧ Below w.heap.size w w' := by
  unfold order_CBOR.f at h
  split at h
  case isFalse => cases h
  rename_i hl
  injection h with h
  subst h
  have HM := Aside0.mk (places_calls37 lessC cmp37 A0 c0 l0 w hr0 hc0 hl)
  clear hr0
  go_enter Try.func19, Try.ntmps19
  go_wp2_with (go_at_call 36; refine HM.out.mono ?_; rintro e w1 ⟨v1, rfl, ho, hb⟩; have HO1 := Aside0.mk ho; have HB1 := Aside0.mk hb; clear ho hb)
  go_ret
  exact ⟨_, rfl, HO1.out, HB1.out⟩
end Go.Proofs.Ytpamgedmgjfjjaa.M
end
