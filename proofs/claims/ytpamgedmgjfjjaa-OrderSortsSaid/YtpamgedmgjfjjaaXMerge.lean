/-
What order.merge and order.sorted come to at the places of keys: lists merged by a comparison that holds throughout.
-/
import Derived.Test.YtpamgedmgjfjjaaXBase
namespace Go.Proofs.Ytpamgedmgjfjjaa.M
open Go.RowKit Go.Proofs.YtpamgedmgjfjjaaW.PrintWords Go.Proofs.YtpamgedmgjfjjaaW.PrintLast Go.Proofs.YtpamgedmgjfjjaaW.PrintMore
set_option linter.unusedVariables false
set_option linter.unusedSimpArgs false

theorem info3x : (Try.prog.info? 3).map (fun i => (i.zero, i.size, i.bytes)) = some (some (.int .i64 0), 1, 8) := by kernel_rfl

/-- The comparison that a closure over two variables makes, in every world behind W0. -/
def LessAt (W0 : World) (b2 b3 : Nat) (n : Int) (lt : Int → Int → Bool) : Prop :=
  ∀ W, Below W0.heap.size W0 W → ∀ i k : Int, 0 ≤ i → i < n → 0 ≤ k → k < n →
    Calls Try.prog 48 #[.int .i64 i, .int .i64 k, .pointer (some ⟨b3, 0, none⟩), .pointer (some ⟨b2, 0, none⟩)] W fun e w' => e = .returned (.bool (lt i k)) ∧ Below W.heap.size W w'

/-- Of two the second one, if it stands ahead of the first one. -/
def mergeL (lt : Int → Int → Bool) (xs ys : List Int) : List Int := List.merge xs ys (fun x y => !(lt y x))
theorem mergeL_nil (lt : Int → Int → Bool) (ys : List Int) : mergeL lt [] ys = ys := by simp [mergeL]
theorem mergeL_nil2 (lt : Int → Int → Bool) (xs : List Int) : mergeL lt xs [] = xs := by simp [mergeL]
theorem mergeL_lt (lt : Int → Int → Bool) (x y : Int) (xs ys : List Int) (h : lt y x = true) : mergeL lt (x :: xs) (y :: ys) = y :: mergeL lt (x :: xs) ys := by
  unfold mergeL
  rw [List.cons_merge_cons]
  simp [h]
theorem mergeL_ge (lt : Int → Int → Bool) (x y : Int) (xs ys : List Int) (h : lt y x = false) : mergeL lt (x :: xs) (y :: ys) = x :: mergeL lt xs (y :: ys) := by
  unfold mergeL
  rw [List.cons_merge_cons]
  simp [h]
def slen : Value → Nat
  | .slice _ n _ => n
  | _ => 0
def InR (n : Int) (l : List Int) : Prop := ∀ x ∈ l, 0 ≤ x ∧ x < n

/-- A list without its first one, as a slice. -/
theorem tail_of {w : World} {A : Option Addr} {c : Nat} (x : Int) (xs : List Int) (h : Kd.C (Kd.int .i64) w A (x :: xs).length (x :: xs)) (hc : (x :: xs).length ≤ c) :
    ∃ ad : Addr, A = some ad ∧ (∀ W : World, Below w.heap.size w W → W.cell? ad = some (.int .i64 x)) ∧ Kd.C (Kd.int .i64) w (if c = 1 then some ad else some { block := ad.block, off := ad.off + 1 }) xs.length xs ∧ xs.length ≤ c - 1 := by
  have hr := Kd.reads_of_C (enc := Value.int .i64) (d := (0 : Int)) (h1 := fun _ => rfl) h
  obtain ⟨hl, hm, hcs⟩ := hr
  obtain ⟨ad, rfl, hcells⟩ := hcs (by simp)
  refine ⟨ad, rfl, ?_, ?_, by simp at hc; omega⟩
  · intro W hW
    obtain ⟨ad2, ea2, hcell2⟩ := Kd.at_int (Kd.C_below h hW) 0 (by omega) (by simp)
    injection ea2 with ea2
    subst ea2
    simpa [rd, Addr.add] using hcell2
  · refine Kd.C_of_reads (d := (0 : Int)) (h1 := fun _ => rfl) ⟨rfl, by simp at hm; omega, fun h0 => ?_⟩
    have hc1 : c ≠ 1 := by simp at hc; omega
    rw [if_neg hc1]
    refine ⟨_, rfl, fun j hj => ?_⟩
    have h2 := hcells (j + 1) (by simp; omega)
    have e : (Addr.add { block := ad.block, off := ad.off + 1 } j) = Addr.add ad (j + 1) := by
      unfold Addr.add
      by_cases h0 : j = 0
      · subst h0
        simp
      · rw [if_neg h0, if_neg (by omega)]
        simp only [Addr.mk.injEq, true_and, and_true]
        omega
    rw [e, h2]
    simp

set_option maxHeartbeats 4000000 in
set_option maxRecDepth 100000 in
theorem merge_calls (W0 : World) (b2 b3 : Nat) (n : Int) (lt : Int → Int → Bool) (HL0 : Aside0 (LessAt W0 b2 b3 n lt)) (w : World) (hB0 : Below W0.heap.size W0 w)
    (Aa Ab : Option Addr) (ca cb : Nat) (xs ys : List Int) (hx : InR n xs) (hy : InR n ys) (ha : Kd.C (Kd.int .i64) w Aa xs.length xs) (hca : xs.length ≤ ca) (hb : Kd.C (Kd.int .i64) w Ab ys.length ys) (hcb : ys.length ≤ cb) (hlen : xs.length + ys.length ≤ 1000000) :
    Calls Try.prog 56 #[.slice Aa xs.length ca, .slice Ab ys.length cb, .func (.func 48) #[] #[.pointer (some ⟨b3, 0, none⟩), .pointer (some ⟨b2, 0, none⟩)]] w fun e w' =>
      ∃ v : Value, e = .returned v ∧ Kd.R (Kd.int .i64) 3 w' w.heap.size (fun _ => True) v (mergeL lt xs ys) ∧ Below w.heap.size w w' := by
  obtain ⟨i0, hi0, hzz⟩ := Option.map_eq_some_iff.1 info3x
  simp only [Prod.mk.injEq] at hzz
  obtain ⟨hz0, hz1, hz2⟩ := hzz
  have HI := Aside0.mk hi0
  have HZ0 := Aside0.mk hz0
  have HZ1 := Aside0.mk hz1
  have HZ2 := Aside0.mk hz2
  have HX := Aside0.mk hx
  have HY := Aside0.mk hy
  have HA := Aside0.mk ha
  have HBb := Aside0.mk hb
  have HCA := Aside0.mk hca
  have HCB := Aside0.mk hcb
  have HB0 := Aside0.mk hB0
  clear hi0 hz0 hz1 hz2 hx hy ha hb hca hcb hB0
  go_enter Try.func56, Try.ntmps56
  go_wp2_with (at_make; refine wpList_make_own w rfl (.const (.int .i64 0)) (.tmp 12) 37 rfl w.heap.size 3 i0 (.int .i64 0) 1 Try.underlying37 HI.out HZ0.out HZ1.out .i64 .i64 _ (xs.length + ys.length) rfl rfl (by omega) (by rw [HZ2.out]; omega) (by unfold maxLen; omega) (Nat.le_refl _) ?_; intro w1 hown hg; have HO := Aside0.mk (show Kd.R (Kd.int .i64) 3 w1 w.heap.size (fun _ => True) (.slice (some ⟨w.heap.size, 0, none⟩) 0 (xs.length + ys.length)) [] from Kd.R_of_own (by simpa [encs] using hown) (fun _ _ => trivial)); have HB1 := Aside0.mk (show Below w.heap.size w w1 from pw_below_grown (Below.refl _ _) none (Nat.le_refl _) hg (fun k hk => by cases hk)); clear hown hg)
  go_loopw [0, 1, 7] (fun v0 v1 v7 wr => ∃ (A1 A2 : Option Addr) (c1 c2 : Nat) (xs1 ys1 out : List Int), v0 = .slice A1 xs1.length c1 ∧ v1 = .slice A2 ys1.length c2 ∧ Aside0 (xs1.length ≤ c1) ∧ Aside0 (ys1.length ≤ c2) ∧ Aside0 (InR n xs1) ∧ Aside0 (InR n ys1)
      ∧ Aside0 (Kd.C (Kd.int .i64) w A1 xs1.length xs1) ∧ Aside0 (Kd.C (Kd.int .i64) w A2 ys1.length ys1) ∧ Aside0 (Kd.R (Kd.int .i64) 3 wr w.heap.size (fun _ => True) v7 out) ∧ Aside0 (Below w.heap.size w wr)
      ∧ Aside0 (out ++ mergeL lt xs1 ys1 = mergeL lt xs ys) ∧ Aside0 (out.length + xs1.length + ys1.length = xs.length + ys.length))
    (fun v0 v1 v7 _ => slen v0 + slen v1)
  case atStart => exact ⟨Aa, Ab, ca, cb, xs, ys, [], rfl, rfl, HCA, HCB, HX, HY, HA, HBb, HO, HB1, ⟨rfl⟩, ⟨by simp⟩⟩
  case round =>
    obtain ⟨A1, A2, c1, c2, xs1, ys1, out, rfl, rfl, HC1, HC2, HX1, HY1, HA1, HA2, HO1, HB2, HM, HL⟩ := hrel
    rcases xs1 with _ | ⟨x, xs2⟩
    · have HE := Aside0.mk (show out ++ [] ++ ys1 = mergeL lt xs ys by
        have := HM.out
        rw [mergeL_nil] at this
        simpa using this)
      go_wp2_with (first
        | ((with_reducible refine gate_builtin (b := .append) (xs := #[.tmp 46, .tmp 47]) rfl ?_); at_builtin; refine Kd.R_append_rows (Kd.int .i64) (w0 := w) w.heap.size rfl (.tmp 46) (.tmp 47) 37 3 (.int .i64 0) 8 rfl Try.underlying37 info3x rfl (by decide) (by omega) u7 (out) ([]) A1 ([]).length c1 (fun _ => True) (fun _ => False) rfl rfl HO1.out (Kd.C_below HA1.out HB2.out) (fun _ _ h => h) (fun _ h => h.elim) (fun _ _ => trivial) HB2.out (below_size HB2.out) ?aL5 ?_; (case aL5 => have := HL.out; simp only [List.length_cons, List.length_nil, List.length_append] at this ⊢; omega); intro v5 w5 ho hb hg hat; have HO5 := Aside0.mk ho; have HB5 := Aside0.mk hb; clear ho hb hg hat)
        | ((with_reducible refine gate_builtin (b := .append) (xs := #[.tmp 48, .tmp 49]) rfl ?_); at_builtin; refine Kd.R_append_rows (Kd.int .i64) (w0 := w) w.heap.size rfl (.tmp 48) (.tmp 49) 37 3 (.int .i64 0) 8 rfl Try.underlying37 info3x rfl (by decide) (by omega) v5 (out ++ []) (ys1) A2 (ys1).length c2 (fun _ => True) (fun _ => False) rfl rfl HO5.out (Kd.C_below HA2.out HB5.out) (fun _ _ h => h) (fun _ h => h.elim) (fun _ _ => trivial) HB5.out (below_size HB5.out) ?aL6 ?_; (case aL6 => have := HL.out; simp only [List.length_cons, List.length_nil, List.length_append] at this ⊢; omega); intro v6 w6 ho hb hg hat; have HO6 := Aside0.mk ho; have HB6 := Aside0.mk hb; clear ho hb hg hat))
      go_ret
      exact ⟨_, rfl, by
        have h := HO6.out
        rw [HE.out] at h
        exact h, HB6.out⟩
    · rcases ys1 with _ | ⟨y, ys2⟩
      · have HE := Aside0.mk (show out ++ (x :: xs2) ++ [] = mergeL lt xs ys by
          have := HM.out
          rw [mergeL_nil2] at this
          simpa using this)
        go_wp2_with (first
          | ((with_reducible refine gate_builtin (b := .append) (xs := #[.tmp 46, .tmp 47]) rfl ?_); at_builtin; refine Kd.R_append_rows (Kd.int .i64) (w0 := w) w.heap.size rfl (.tmp 46) (.tmp 47) 37 3 (.int .i64 0) 8 rfl Try.underlying37 info3x rfl (by decide) (by omega) u7 (out) ((x :: xs2)) A1 ((x :: xs2)).length c1 (fun _ => True) (fun _ => False) rfl rfl HO1.out (Kd.C_below HA1.out HB2.out) (fun _ _ h => h) (fun _ h => h.elim) (fun _ _ => trivial) HB2.out (below_size HB2.out) ?aL5 ?_; (case aL5 => have := HL.out; simp only [List.length_cons, List.length_nil, List.length_append] at this ⊢; omega); intro v5 w5 ho hb hg hat; have HO5 := Aside0.mk ho; have HB5 := Aside0.mk hb; clear ho hb hg hat)
          | ((with_reducible refine gate_builtin (b := .append) (xs := #[.tmp 48, .tmp 49]) rfl ?_); at_builtin; refine Kd.R_append_rows (Kd.int .i64) (w0 := w) w.heap.size rfl (.tmp 48) (.tmp 49) 37 3 (.int .i64 0) 8 rfl Try.underlying37 info3x rfl (by decide) (by omega) v5 (out ++ (x :: xs2)) ([]) A2 ([]).length c2 (fun _ => True) (fun _ => False) rfl rfl HO5.out (Kd.C_below HA2.out HB5.out) (fun _ _ h => h) (fun _ h => h.elim) (fun _ _ => trivial) HB5.out (below_size HB5.out) ?aL6 ?_; (case aL6 => have := HL.out; simp only [List.length_cons, List.length_nil, List.length_append] at this ⊢; omega); intro v6 w6 ho hb hg hat; have HO6 := Aside0.mk ho; have HB6 := Aside0.mk hb; clear ho hb hg hat))
        go_ret
        exact ⟨_, rfl, by
          have h := HO6.out
          rw [HE.out] at h
          exact h, HB6.out⟩
      · obtain ⟨a1, rfl, hc1, ht1, hl1⟩ := tail_of x xs2 HA1.out HC1.out
        obtain ⟨a2, rfl, hc2, ht2, hl2⟩ := tail_of y ys2 HA2.out HC2.out
        have hk1 := hc1 wr HB2.out
        have hk2 := hc2 wr HB2.out
        have hx0 := HX1.out x (by simp)
        have hy0 := HY1.out y (by simp)
        have HBd := Aside0.mk (below_drew HB2.out)
        have HOd := Aside0.mk (Kd.R_below HO1.out (below_drew (Below.refl _ _)))
        have HCL := Aside0.mk (HL0.out wr.drew (below_then HB0.out HB0.out.size HBd.out) y x hy0.1 hy0.2 hx0.1 hx0.2)
        obtain ⟨b, hb⟩ : ∃ b, lt y x = b := ⟨_, rfl⟩
        rw [hb] at HCL
        clear hx0 hy0
        cases b
        · go_wp2
          go_region_with (go_at_call 48; refine HCL.out.mono ?_; rintro e w2 ⟨rfl, hb2⟩; have HB3 := Aside0.mk (below_step HBd.out hb2); have HO3 := Aside0.mk (Kd.R_below HOd.out hb2); have hk3 := hc1 w2 HB3.out; have hk4 := hc2 w2 HB3.out; clear hb2 HCL HBd HOd HO1)
          all_goals
            go_wp2_with ((with_reducible refine gate_builtin (b := .append) (xs := #[.tmp 38, .tmp 42]) rfl ?_); at_builtin; refine Kd.R_append (Kd.int .i64) (w0 := w) w.heap.size rfl (.tmp 38) (.tmp 42) 37 3 (.int .i64 0) 8 rfl Try.underlying37 info3x rfl (by decide) (by omega) u7 out x [.int .i64 x] (fun _ => True) (fun _ => False) rfl rfl ?aP (fun _ hk => hk.elim) (fun _ _ => trivial) ?aO ?aB ?aS ?aL ?_; (case aP => exact rfl); (case aO => exact HO3.out); (case aB => exact HB3.out); (case aS => exact below_size HB3.out); (case aL => have := HL.out; simp only [List.length_cons] at this; omega); intro v2 w3 ho hb hg hat; have HO4 := Aside0.mk ho; have HB4 := Aside0.mk hb; clear ho hb hg hat HO3 HB3)
            go_roundw
            case rel =>
              exact ⟨_, some a2, c1 - 1, c2, xs2, y :: ys2, out ++ [x], rfl, rfl, ⟨hl1⟩, HC2, ⟨fun z hz => HX1.out z (by simp [hz])⟩, HY1, ⟨ht1⟩, HA2, HO4, HB4, ⟨by
                have := HM.out
                rw [mergeL_ge lt x y xs2 ys2 hb] at this
                simpa using this⟩, ⟨by
                have := HL.out
                simp only [List.length_cons, List.length_append, List.length_nil] at this ⊢
                omega⟩⟩
            case measure => simp [slen]
        · go_wp2
          go_region_with (go_at_call 48; refine HCL.out.mono ?_; rintro e w2 ⟨rfl, hb2⟩; have HB3 := Aside0.mk (below_step HBd.out hb2); have HO3 := Aside0.mk (Kd.R_below HOd.out hb2); have hk3 := hc1 w2 HB3.out; have hk4 := hc2 w2 HB3.out; clear hb2 HCL HBd HOd HO1)
          all_goals
            go_wp2_with ((with_reducible refine gate_builtin (b := .append) (xs := #[.tmp 30, .tmp 34]) rfl ?_); at_builtin; refine Kd.R_append (Kd.int .i64) (w0 := w) w.heap.size rfl (.tmp 30) (.tmp 34) 37 3 (.int .i64 0) 8 rfl Try.underlying37 info3x rfl (by decide) (by omega) u7 out y [.int .i64 y] (fun _ => True) (fun _ => False) rfl rfl ?aP (fun _ hk => hk.elim) (fun _ _ => trivial) ?aO ?aB ?aS ?aL ?_; (case aP => exact rfl); (case aO => exact HO3.out); (case aB => exact HB3.out); (case aS => exact below_size HB3.out); (case aL => have := HL.out; simp only [List.length_cons] at this; omega); intro v2 w3 ho hb hg hat; have HO4 := Aside0.mk ho; have HB4 := Aside0.mk hb; clear ho hb hg hat HO3 HB3)
            go_roundw
            case rel =>
              exact ⟨some a1, _, c1, c2 - 1, x :: xs2, ys2, out ++ [y], rfl, rfl, HC1, ⟨hl2⟩, HX1, ⟨fun z hz => HY1.out z (by simp [hz])⟩, HA1, ⟨ht2⟩, HO4, HB4, ⟨by
                have := HM.out
                rw [mergeL_lt lt x y xs2 ys2 hb] at this
                simpa using this⟩, ⟨by
                have := HL.out
                simp only [List.length_cons, List.length_append, List.length_nil] at this ⊢
                omega⟩⟩
            case measure => simp [slen]
end Go.Proofs.Ytpamgedmgjfjjaa.M
