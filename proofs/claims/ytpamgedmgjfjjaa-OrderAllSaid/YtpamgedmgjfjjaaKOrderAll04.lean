/-
Lemmas for OrderAll, for every input they speak of: XMerge, XSorted.
-/
import Derived.Test.YtpamgedmgjfjjaaKOrderAll03
section
namespace Go.Proofs.Ytpamgedmgjfjjaa.M
open Go.RowKit Go.Proofs.YtpamgedmgjfjjaaW.PrintWords Go.Proofs.YtpamgedmgjfjjaaW.PrintLast Go.Proofs.YtpamgedmgjfjjaaW.PrintMore
set_option linter.unusedVariables false
set_option linter.unusedSimpArgs false
theorem info3x : (Try.prog.info? 3).map (fun i => (i.zero, i.size, i.bytes)) = some (some (.int .i64 0), 1, 8) := by kernel_rfl
def LessAt (W0 : World) (b2 b3 : Nat) (n : Int) (lt : Int → Int → Bool) : Prop :=
  ∀ W, Below W0.heap.size W0 W → ∀ i k : Int, 0 ≤ i → i < n → 0 ≤ k → k < n →
    Calls Try.prog 48 #[.int .i64 i, .int .i64 k, .pointer (some ⟨b3, 0, none⟩), .pointer (some ⟨b2, 0, none⟩)] W fun e w' => e = .returned (.bool (lt i k)) ∧ Below W.heap.size W w'
def mergeL (lt : Int → Int → Bool) (xs ys : List Int) : List Int := List.merge xs ys (fun x y => !(lt y x))
theorem mergeL_nil (lt : Int → Int → Bool) (ys : List Int) : mergeL lt [] ys = ys := by simp [mergeL]
theorem mergeL_nil2 (lt : Int → Int → Bool) (xs : List Int) : mergeL lt xs [] = xs := by simp [mergeL]
theorem mergeL_lt (lt : Int → Int → Bool) (x y : Int) (xs ys : List Int) (h : lt y x = true) : mergeL lt (x :: xs) (y :: ys) = y :: mergeL lt (x :: xs) ys := by
  unfold mergeL
  rw [List.cons_merge_cons]
  simp [h]
theorem mergeL_ge (lt : Int → Int → Bool) (x y : Int) (xs ys : List Int) (h : lt y x = false) : mergeL lt (x :: xs) (y :: ys) = x :: mergeL lt xs (y :: ys) := by
  unfold mergeL
  rw [List.cons_merge_cons]
  simp [h]
def slen : Value → Nat
  | .slice _ n _ => n
  | _ => 0
def InR (n : Int) (l : List Int) : Prop := ∀ x ∈ l, 0 ≤ x ∧ x < n
theorem tail_of {w : World} {A : Option Addr} {c : Nat} (x : Int) (xs : List Int) (h : Kd.C (Kd.int .i64) w A (x :: xs).length (x :: xs)) (hc : (x :: xs).length ≤ c) :
    ∃ ad : Addr, A = some ad ∧ (∀ W : World, Below w.heap.size w W → W.cell? ad = some (.int .i64 x)) ∧ Kd.C (Kd.int .i64) w (if c = 1 then some ad else some { block := ad.block, off := ad.off + 1 }) xs.length xs ∧ xs.length ≤ c - 1 := by
  have hr := Kd.reads_of_C (enc := Value.int .i64) (d := (0 : Int)) (h1 := fun _ => rfl) h
  obtain ⟨hl, hm, hcs⟩ := hr
  obtain ⟨ad, rfl, hcells⟩ := hcs (by simp)
  refine ⟨ad, rfl, ?_, ?_, by simp at hc; omega⟩
  · intro W hW
    obtain ⟨ad2, ea2, hcell2⟩ := Kd.at_int (Kd.C_below h hW) 0 (by omega) (by simp)
    injection ea2 with ea2
    subst ea2
    simpa [rd, Addr.add] using hcell2
  · refine Kd.C_of_reads (d := (0 : Int)) (h1 := fun _ => rfl) ⟨rfl, by simp at hm; omega, fun h0 => ?_⟩
    have hc1 : c ≠ 1 := by simp at hc; omega
    rw [if_neg hc1]
    refine ⟨_, rfl, fun j hj => ?_⟩
    have h2 := hcells (j + 1) (by simp; omega)
    have e : (Addr.add { block := ad.block, off := ad.off + 1 } j) = Addr.add ad (j + 1) := by
      unfold Addr.add
      by_cases h0 : j = 0
      · subst h0
        simp
      · rw [if_neg h0, if_neg (by omega)]
        simp only [Addr.mk.injEq, true_and, and_true]
        omega
    rw [e, h2]
    simp
set_option maxHeartbeats 4000000 in
set_option maxRecDepth 100000 in
theorem merge_calls (W0 : World) (b2 b3 : Nat) (n : Int) (lt : Int → Int → Bool) (HL0 : Aside0 (LessAt W0 b2 b3 n lt)) (w : World) (hB0 : Below W0.heap.size W0 w)
    (Aa Ab : Option Addr) (ca cb : Nat) (xs ys : List Int) (hx : InR n xs) (hy : InR n ys) (ha : Kd.C (Kd.int .i64) w Aa xs.length xs) (hca : xs.length ≤ ca) (hb : Kd.C (Kd.int .i64) w Ab ys.length ys) (hcb : ys.length ≤ cb) (hlen : xs.length + ys.length ≤ 1000000) :
    Calls Try.prog 56 #[.slice Aa xs.length ca, .slice Ab ys.length cb, .func (.func 48) #[] #[.pointer (some ⟨b3, 0, none⟩), .pointer (some ⟨b2, 0, none⟩)]] w fun e w' =>
      ∃ v : Value, e = .returned v ∧ Kd.R (Kd.int .i64) 3 w' w.heap.size (fun _ => True) v (mergeL lt xs ys) ∧ Below w.heap.size w w' := by
  obtain ⟨i0, hi0, hzz⟩ := Option.map_eq_some_iff.1 info3x
  simp only [Prod.mk.injEq] at hzz
  obtain ⟨hz0, hz1, hz2⟩ := hzz
  have HI := Aside0.mk hi0
  have HZ0 := Aside0.mk hz0
  have HZ1 := Aside0.mk hz1
  have HZ2 := Aside0.mk hz2
  have HX := Aside0.mk hx
  have HY := Aside0.mk hy
  have HA := Aside0.mk ha
  have HBb := Aside0.mk hb
  have HCA := Aside0.mk hca
  have HCB := Aside0.mk hcb
  have HB0 := Aside0.mk hB0
  clear hi0 hz0 hz1 hz2 hx hy ha hb hca hcb hB0
  go_enter Try.func56, Try.ntmps56
  go_wp2_with (at_make; refine wpList_make_own w rfl (.const (.int .i64 0)) (.tmp 12) 37 rfl w.heap.size 3 i0 (.int .i64 0) 1 Try.underlying37 HI.out HZ0.out HZ1.out .i64 .i64 _ (xs.length + ys.length) rfl rfl (by omega) (by rw [HZ2.out]; omega) (by unfold maxLen; omega) (Nat.le_refl _) ?_; intro w1 hown hg; have HO := Aside0.mk (show Kd.R (Kd.int .i64) 3 w1 w.heap.size (fun _ => True) (.slice (some ⟨w.heap.size, 0, none⟩) 0 (xs.length + ys.length)) [] from Kd.R_of_own (by simpa [encs] using hown) (fun _ _ => trivial)); have HB1 := Aside0.mk (show Below w.heap.size w w1 from pw_below_grown (Below.refl _ _) none (Nat.le_refl _) hg (fun k hk => by cases hk)); clear hown hg)
  go_loopw [0, 1, 7] (fun v0 v1 v7 wr => ∃ (A1 A2 : Option Addr) (c1 c2 : Nat) (xs1 ys1 out : List Int), v0 = .slice A1 xs1.length c1 ∧ v1 = .slice A2 ys1.length c2 ∧ Aside0 (xs1.length ≤ c1) ∧ Aside0 (ys1.length ≤ c2) ∧ Aside0 (InR n xs1) ∧ Aside0 (InR n ys1)
      ∧ Aside0 (Kd.C (Kd.int .i64) w A1 xs1.length xs1) ∧ Aside0 (Kd.C (Kd.int .i64) w A2 ys1.length ys1) ∧ Aside0 (Kd.R (Kd.int .i64) 3 wr w.heap.size (fun _ => True) v7 out) ∧ Aside0 (Below w.heap.size w wr)
      ∧ Aside0 (out ++ mergeL lt xs1 ys1 = mergeL lt xs ys) ∧ Aside0 (out.length + xs1.length + ys1.length = xs.length + ys.length))
    (fun v0 v1 v7 _ => slen v0 + slen v1)
  case atStart => exact ⟨Aa, Ab, ca, cb, xs, ys, [], rfl, rfl, HCA, HCB, HX, HY, HA, HBb, HO, HB1, ⟨rfl⟩, ⟨by simp⟩⟩
  case round =>
    obtain ⟨A1, A2, c1, c2, xs1, ys1, out, rfl, rfl, HC1, HC2, HX1, HY1, HA1, HA2, HO1, HB2, HM, HL⟩ := hrel
    rcases xs1 with _ | ⟨x, xs2⟩
    · have HE := Aside0.mk (show out ++ [] ++ ys1 = mergeL lt xs ys by
        have := HM.out
        rw [mergeL_nil] at this
        simpa using this)
      go_wp2_with (first
        | ((with_reducible refine gate_builtin (b := .append) (xs := #[.tmp 46, .tmp 47]) rfl ?_); at_builtin; refine Kd.R_append_rows (Kd.int .i64) (w0 := w) w.heap.size rfl (.tmp 46) (.tmp 47) 37 3 (.int .i64 0) 8 rfl Try.underlying37 info3x rfl (by decide) (by omega) u7 (out) ([]) A1 ([]).length c1 (fun _ => True) (fun _ => False) rfl rfl HO1.out (Kd.C_below HA1.out HB2.out) (fun _ _ h => h) (fun _ h => h.elim) (fun _ _ => trivial) HB2.out (below_size HB2.out) ?aL5 ?_; (case aL5 => have := HL.out; simp only [List.length_cons, List.length_nil, List.length_append] at this ⊢; omega); intro v5 w5 ho hb hg hat; have HO5 := Aside0.mk ho; have HB5 := Aside0.mk hb; clear ho hb hg hat)
        | ((with_reducible refine gate_builtin (b := .append) (xs := #[.tmp 48, .tmp 49]) rfl ?_); at_builtin; refine Kd.R_append_rows (Kd.int .i64) (w0 := w) w.heap.size rfl (.tmp 48) (.tmp 49) 37 3 (.int .i64 0) 8 rfl Try.underlying37 info3x rfl (by decide) (by omega) v5 (out ++ []) (ys1) A2 (ys1).length c2 (fun _ => True) (fun _ => False) rfl rfl HO5.out (Kd.C_below HA2.out HB5.out) (fun _ _ h => h) (fun _ h => h.elim) (fun _ _ => trivial) HB5.out (below_size HB5.out) ?aL6 ?_; (case aL6 => have := HL.out; simp only [List.length_cons, List.length_nil, List.length_append] at this ⊢; omega); intro v6 w6 ho hb hg hat; have HO6 := Aside0.mk ho; have HB6 := Aside0.mk hb; clear ho hb hg hat))
      go_ret
      exact ⟨_, rfl, by
        have h := HO6.out
        rw [HE.out] at h
        exact h, HB6.out⟩
    · rcases ys1 with _ | ⟨y, ys2⟩
      · have HE := Aside0.mk (show out ++ (x :: xs2) ++ [] = mergeL lt xs ys by
          have := HM.out
          rw [mergeL_nil2] at this
          simpa using this)
        go_wp2_with (first
          | ((with_reducible refine gate_builtin (b := .append) (xs := #[.tmp 46, .tmp 47]) rfl ?_); at_builtin; refine Kd.R_append_rows (Kd.int .i64) (w0 := w) w.heap.size rfl (.tmp 46) (.tmp 47) 37 3 (.int .i64 0) 8 rfl Try.underlying37 info3x rfl (by decide) (by omega) u7 (out) ((x :: xs2)) A1 ((x :: xs2)).length c1 (fun _ => True) (fun _ => False) rfl rfl HO1.out (Kd.C_below HA1.out HB2.out) (fun _ _ h => h) (fun _ h => h.elim) (fun _ _ => trivial) HB2.out (below_size HB2.out) ?aL5 ?_; (case aL5 => have := HL.out; simp only [List.length_cons, List.length_nil, List.length_append] at this ⊢; omega); intro v5 w5 ho hb hg hat; have HO5 := Aside0.mk ho; have HB5 := Aside0.mk hb; clear ho hb hg hat)
          | ((with_reducible refine gate_builtin (b := .append) (xs := #[.tmp 48, .tmp 49]) rfl ?_); at_builtin; refine Kd.R_append_rows (Kd.int .i64) (w0 := w) w.heap.size rfl (.tmp 48) (.tmp 49) 37 3 (.int .i64 0) 8 rfl Try.underlying37 info3x rfl (by decide) (by omega) v5 (out ++ (x :: xs2)) ([]) A2 ([]).length c2 (fun _ => True) (fun _ => False) rfl rfl HO5.out (Kd.C_below HA2.out HB5.out) (fun _ _ h => h) (fun _ h => h.elim) (fun _ _ => trivial) HB5.out (below_size HB5.out) ?aL6 ?_; (case aL6 => have := HL.out; simp only [List.length_cons, List.length_nil, List.length_append] at this ⊢; omega); intro v6 w6 ho hb hg hat; have HO6 := Aside0.mk ho; have HB6 := Aside0.mk hb; clear ho hb hg hat))
        go_ret
        exact ⟨_, rfl, by
          have h := HO6.out
          rw [HE.out] at h
          exact h, HB6.out⟩
      · obtain ⟨a1, rfl, hc1, ht1, hl1⟩ := tail_of x xs2 HA1.out HC1.out
        obtain ⟨a2, rfl, hc2, ht2, hl2⟩ := tail_of y ys2 HA2.out HC2.out
        have hk1 := hc1 wr HB2.out
        have hk2 := hc2 wr HB2.out
        have hx0 := HX1.out x (by simp)
        have hy0 := HY1.out y (by simp)
        have HBd := Aside0.mk (below_drew HB2.out)
        have HOd := Aside0.mk (Kd.R_below HO1.out (below_drew (Below.refl _ _)))
        have HCL := Aside0.mk (HL0.out wr.drew (below_then HB0.out HB0.out.size HBd.out) y x hy0.1 hy0.2 hx0.1 hx0.2)
        obtain ⟨b, hb⟩ : ∃ b, lt y x = b := ⟨_, rfl⟩
        rw [hb] at HCL
        clear hx0 hy0
        cases b
        · go_wp2
          go_region_with (go_at_call 48; refine HCL.out.mono ?_; rintro e w2 ⟨rfl, hb2⟩; have HB3 := Aside0.mk (below_step HBd.out hb2); have HO3 := Aside0.mk (Kd.R_below HOd.out hb2); have hk3 := hc1 w2 HB3.out; have hk4 := hc2 w2 HB3.out; clear hb2 HCL HBd HOd HO1)
          all_goals
            go_wp2_with ((with_reducible refine gate_builtin (b := .append) (xs := #[.tmp 38, .tmp 42]) rfl ?_); at_builtin; refine Kd.R_append (Kd.int .i64) (w0 := w) w.heap.size rfl (.tmp 38) (.tmp 42) 37 3 (.int .i64 0) 8 rfl Try.underlying37 info3x rfl (by decide) (by omega) u7 out x [.int .i64 x] (fun _ => True) (fun _ => False) rfl rfl ?aP (fun _ hk => hk.elim) (fun _ _ => trivial) ?aO ?aB ?aS ?aL ?_; (case aP => exact rfl); (case aO => exact HO3.out); (case aB => exact HB3.out); (case aS => exact below_size HB3.out); (case aL => have := HL.out; simp only [List.length_cons] at this; omega); intro v2 w3 ho hb hg hat; have HO4 := Aside0.mk ho; have HB4 := Aside0.mk hb; clear ho hb hg hat HO3 HB3)
            go_roundw
            case rel =>
              exact ⟨_, some a2, c1 - 1, c2, xs2, y :: ys2, out ++ [x], rfl, rfl, ⟨hl1⟩, HC2, ⟨fun z hz => HX1.out z (by simp [hz])⟩, HY1, ⟨ht1⟩, HA2, HO4, HB4, ⟨by
                have := HM.out
                rw [mergeL_ge lt x y xs2 ys2 hb] at this
                simpa using this⟩, ⟨by
                have := HL.out
                simp only [List.length_cons, List.length_append, List.length_nil] at this ⊢
                omega⟩⟩
            case measure => simp [slen]
        · go_wp2
          go_region_with (go_at_call 48; refine HCL.out.mono ?_; rintro e w2 ⟨rfl, hb2⟩; have HB3 := Aside0.mk (below_step HBd.out hb2); have HO3 := Aside0.mk (Kd.R_below HOd.out hb2); have hk3 := hc1 w2 HB3.out; have hk4 := hc2 w2 HB3.out; clear hb2 HCL HBd HOd HO1)
          all_goals
            go_wp2_with ((with_reducible refine gate_builtin (b := .append) (xs := #[.tmp 30, .tmp 34]) rfl ?_); at_builtin; refine Kd.R_append (Kd.int .i64) (w0 := w) w.heap.size rfl (.tmp 30) (.tmp 34) 37 3 (.int .i64 0) 8 rfl Try.underlying37 info3x rfl (by decide) (by omega) u7 out y [.int .i64 y] (fun _ => True) (fun _ => False) rfl rfl ?aP (fun _ hk => hk.elim) (fun _ _ => trivial) ?aO ?aB ?aS ?aL ?_; (case aP => exact rfl); (case aO => exact HO3.out); (case aB => exact HB3.out); (case aS => exact below_size HB3.out); (case aL => have := HL.out; simp only [List.length_cons] at this; omega); intro v2 w3 ho hb hg hat; have HO4 := Aside0.mk ho; have HB4 := Aside0.mk hb; clear ho hb hg hat HO3 HB3)
            go_roundw
            case rel =>
              exact ⟨some a1, _, c1, c2 - 1, x :: xs2, ys2, out ++ [y], rfl, rfl, HC1, ⟨hl2⟩, HX1, ⟨fun z hz => HY1.out z (by simp [hz])⟩, HA1, ⟨ht2⟩, HO4, HB4, ⟨by
                have := HM.out
                rw [mergeL_lt lt x y xs2 ys2 hb] at this
                simpa using this⟩, ⟨by
                have := HL.out
                simp only [List.length_cons, List.length_append, List.length_nil] at this ⊢
                omega⟩⟩
            case measure => simp [slen]
end Go.Proofs.Ytpamgedmgjfjjaa.M
end
section
namespace Go.Proofs.Ytpamgedmgjfjjaa.M
open Go.RowKit Go.Proofs.YtpamgedmgjfjjaaW.PrintWords Go.Proofs.YtpamgedmgjfjjaaW.PrintLast Go.Proofs.YtpamgedmgjfjjaaW.PrintMore
set_option linter.unusedVariables false
set_option linter.unusedSimpArgs false
def sortedL (lt : Int → Int → Bool) : Nat → List Int → List Int
  | 0, l => l
  | k + 1, l => if l.length < 2 then l else mergeL lt (sortedL lt k (l.take (l.length / 2))) (sortedL lt k (l.drop (l.length / 2)))
theorem sortedL_perm (lt : Int → Int → Bool) : ∀ (k : Nat) (l : List Int), (sortedL lt k l).Perm l
  | 0, l => List.Perm.refl l
  | k + 1, l => by
    unfold sortedL
    split
    · exact List.Perm.refl l
    · refine (List.merge_perm_append _).trans ?_
      refine ((sortedL_perm lt k _).append (sortedL_perm lt k _)).trans ?_
      rw [List.take_append_drop]
theorem sortedL_length (lt : Int → Int → Bool) (k : Nat) (l : List Int) : (sortedL lt k l).length = l.length := (sortedL_perm lt k l).length_eq
theorem sortedL_inR {n : Int} (lt : Int → Int → Bool) (k : Nat) (l : List Int) (h : InR n l) : InR n (sortedL lt k l) := fun x hx => h x ((sortedL_perm lt k l).mem_iff.1 hx)
theorem sortedL_short (lt : Int → Int → Bool) (k : Nat) (l : List Int) (h : l.length < 2) : sortedL lt k l = l := by
  cases k
  · rfl
  · rw [sortedL, if_pos h]
set_option maxHeartbeats 4000000 in
set_option maxRecDepth 100000 in
theorem sorted_calls (W0 : World) (b2 b3 : Nat) (n : Int) (lt : Int → Int → Bool) (HL0 : Aside0 (LessAt W0 b2 b3 n lt)) : ∀ (k : Nat) (w : World) (hB0 : Below W0.heap.size W0 w)
    (A : Option Addr) (c : Nat) (l : List Int) (hk : l.length ≤ 2 ^ k) (hx : InR n l) (ha : Kd.C (Kd.int .i64) w A l.length l) (hc : l.length ≤ c) (hlen : l.length ≤ 1000000),
    Calls Try.prog 47 #[.slice A l.length c, .func (.func 48) #[] #[.pointer (some ⟨b3, 0, none⟩), .pointer (some ⟨b2, 0, none⟩)]] w fun e w' =>
      ∃ (A1 : Option Addr) (c1 : Nat), e = .returned (.slice A1 (sortedL lt k l).length c1) ∧ (sortedL lt k l).length ≤ c1 ∧ Kd.C (Kd.int .i64) w' A1 (sortedL lt k l).length (sortedL lt k l)
        ∧ ((l.length < 2 ∧ A1 = A ∧ c1 = c) ∨ Kd.R (Kd.int .i64) 3 w' w.heap.size (fun _ => True) (.slice A1 (sortedL lt k l).length c1) (sortedL lt k l)) ∧ Below w.heap.size w w' := by
  intro k
  induction k with
  | zero =>
    intro w hB0 A c l hk hx ha hc hlen
    have hl : l.length < 2 := by simp at hk; omega
    have h2 : decide (l.length < 2) = true := decide_eq_true hl
    have h2i : decide ((l.length : Int) < 2) = true := decide_eq_true (by omega)
    have HA := Aside0.mk ha
    have HC := Aside0.mk hc
    clear ha hx hB0 hc hk
    go_enter Try.func47, Try.ntmps47
    go_wp2
    go_ret
    exact ⟨A, c, rfl, HC.out, HA.out, .inl ⟨hl, rfl, rfl⟩, Below.refl _ _⟩
  | succ k ih =>
    intro w hB0 A c l hk hx ha hc hlen
    obtain ⟨i0, hi0, hzz⟩ := Option.map_eq_some_iff.1 info3x
    simp only [Prod.mk.injEq] at hzz
    obtain ⟨hz0, hz1, hz2⟩ := hzz
    have HX := Aside0.mk hx
    have HA := Aside0.mk ha
    have HC := Aside0.mk hc
    have HB0 := Aside0.mk hB0
    have HK := Aside0.mk hk
    have HIH := Aside0.mk ih
    by_cases hl : l.length < 2
    · have h2 : decide (l.length < 2) = true := decide_eq_true hl
      have h2i : decide ((l.length : Int) < 2) = true := decide_eq_true (by omega)
      rw [sortedL_short lt _ l hl]
      clear hi0 hz0 hz1 hz2 hx ha hc hB0 hk ih
      go_enter Try.func47, Try.ntmps47
      go_wp2
      go_ret
      exact ⟨A, c, rfl, HC.out, HA.out, .inl ⟨hl, rfl, rfl⟩, Below.refl _ _⟩
    · have h2 : decide (l.length < 2) = false := decide_eq_false hl
      have h2i : decide ((l.length : Int) < 2) = false := decide_eq_false (by omega)
      have hj : ((l.length : Int) / 2).toNat = l.length / 2 := by omega
      have hr := Kd.reads_of_C (enc := Value.int .i64) (d := (0 : Int)) (h1 := fun _ => rfl) ha
      obtain ⟨hs1, hr1, hc1⟩ := print_take_of (P := Try.prog) (Value.int .i64) (0 : Int) 37 3 .i64 Try.underlying37 hi0 hz1 A c l ((l.length : Int) / 2) (by omega) (by omega) hc
      obtain ⟨A2, hs2, hr2, hc2⟩ := print_drop_of (P := Try.prog) (Value.int .i64) (0 : Int) 37 3 .i64 Try.underlying37 hi0 hz1 A c l ((l.length : Int) / 2) (by omega) (by omega) hc
      have hC1 := Kd.C_of_reads (d := (0 : Int)) (h1 := fun _ => rfl) (hr1 w hr)
      have hC2 := Kd.C_of_reads (d := (0 : Int)) (h1 := fun _ => rfl) (hr2 w hr)
      rw [hj] at hs1 hc1 hs2 hc2 hC1 hC2
      have he : sortedL lt (k + 1) l = mergeL lt (sortedL lt k (l.take (l.length / 2))) (sortedL lt k (l.drop (l.length / 2))) := by rw [sortedL, if_neg hl]
      have hn1 : (l.take (l.length / 2)).length = l.length / 2 := by rw [List.length_take]; omega
      have hn2 : (l.drop (l.length / 2)).length = l.length - l.length / 2 := List.length_drop
      have hx1 : InR n (l.take (l.length / 2)) := fun x h => hx x (List.mem_of_mem_take h)
      have hx2 : InR n (l.drop (l.length / 2)) := fun x h => hx x (List.mem_of_mem_drop h)
      rw [he]
      generalize l.take (l.length / 2) = l1 at *
      generalize l.drop (l.length / 2) = l2 at *
      have hp : (2 : Nat) ^ (k + 1) = 2 * 2 ^ k := by rw [Nat.pow_succ]; omega
      have HK1 := Aside0.mk (show l1.length ≤ 2 ^ k by omega)
      have HK2 := Aside0.mk (show l2.length ≤ 2 ^ k by omega)
      have HN1 := Aside0.mk hn1
      have HN2 := Aside0.mk hn2
      have HX1 := Aside0.mk hx1
      have HX2 := Aside0.mk hx2
      have HC1 := Aside0.mk hC1
      have HC2 := Aside0.mk hC2
      have Hc1 := Aside0.mk hc1
      have Hc2 := Aside0.mk hc2
      generalize hcc : c - l.length / 2 = c2 at *
      clear hi0 hz0 hz1 hz2 hx ha hc hB0 hk ih hj hr hr1 hr2 hn1 hn2 hx1 hx2 hp hC1 hC2 hc1 hc2 he hcc
      have HBd := Aside0.mk (below_drew (Below.refl w.heap.size w))
      have HI1 := Aside0.mk (HIH.out w.drew (below_then HB0.out HB0.out.size HBd.out) A c l1 HK1.out HX1.out (Kd.C_drew HC1.out) Hc1.out (by have := HN1.out; omega))
      have HI2 := Aside0.mk (fun w1 (HB3 : Below w.heap.size w w1) => HIH.out w1 (below_then HB0.out HB0.out.size HB3) A2 c2 l2 HK2.out HX2.out (Kd.C_below HC2.out HB3) Hc2.out (by have := HN2.out; omega))
      have HMM := Aside0.mk (fun w2 (HB4 : Below w.heap.size w w2) A3 A4 c3 c4 h1 h2 h3 h4 => merge_calls W0 b2 b3 n lt HL0 w2 (below_then HB0.out HB0.out.size HB4) A3 A4 c3 c4 _ _ (sortedL_inR lt k l1 HX1.out) (sortedL_inR lt k l2 HX2.out) h1 h2 h3 h4 (by rw [sortedL_length, sortedL_length, HN1.out, HN2.out]; omega))
      clear HL0 HIH HX1 HX2 HK1 HK2 HN1 HN2 HB0 HX HA HC HK Hc1 Hc2 HC1 HC2
      generalize sortedL lt k l1 = r1 at *
      generalize sortedL lt k l2 = r2 at *
      generalize mergeL lt r1 r2 = r at *
      go_enter Try.func47, Try.ntmps47
      go_wp2
      go_region_with (first
        | (go_at_call 47; refine HI1.out.mono ?_; rintro e w1 ⟨A3, c3, rfl, hc3, hC3, -, hb3⟩; have HB3 := Aside0.mk (below_step HBd.out hb3); have HC3 := Aside0.mk hC3; have Hc3 := Aside0.mk hc3; clear hb3 hC3 hc3 HI1)
        | (go_at_call 47; refine (HI2.out _ HB3.out).mono ?_; rintro e w2 ⟨A4, c4, rfl, hc4, hC4, -, hb4⟩; have HB4 := Aside0.mk (below_step HB3.out hb4); have HC4 := Aside0.mk hC4; have Hc4 := Aside0.mk hc4; have HC5 := Aside0.mk (Kd.C_below HC3.out hb4); clear hb4 hC4 hc4 HI2)
        | (go_at_call 56; refine (HMM.out w2 HB4.out A3 A4 c3 c4 HC5.out Hc3.out HC4.out Hc4.out).mono ?_; rintro e w3 ⟨v5, rfl, hR5, hb5⟩; have HB5 := Aside0.mk (below_step HB4.out hb5); have HR5 := Aside0.mk (Kd.R_lower hR5 (below_size HB4.out)); clear hR5 hb5))
      all_goals
        (try go_wp2)
        go_ret
        obtain ⟨A6, c6, rfl⟩ := Kd.R_slice HR5.out
        exact ⟨A6, c6, rfl, (Kd.R_reads' HR5.out).2.1, (Kd.R_reads' HR5.out).2.2, .inr HR5.out, HB5.out⟩
end Go.Proofs.Ytpamgedmgjfjjaa.M
end
