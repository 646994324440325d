/-
What order.sorted comes to at the places of keys: a list sorted by halves, by a comparison that holds throughout.
-/
import Derived.Test.YtpamgedmgjfjjaaXMerge
namespace Go.Proofs.Ytpamgedmgjfjjaa.M
open Go.RowKit Go.Proofs.YtpamgedmgjfjjaaW.PrintWords Go.Proofs.YtpamgedmgjfjjaaW.PrintLast Go.Proofs.YtpamgedmgjfjjaaW.PrintMore
set_option linter.unusedVariables false
set_option linter.unusedSimpArgs false

/-- A list sorted by halves, k halvings deep. -/
def sortedL (lt : Int → Int → Bool) : Nat → List Int → List Int
  | 0, l => l
  | k + 1, l => if l.length < 2 then l else mergeL lt (sortedL lt k (l.take (l.length / 2))) (sortedL lt k (l.drop (l.length / 2)))
theorem sortedL_perm (lt : Int → Int → Bool) : ∀ (k : Nat) (l : List Int), (sortedL lt k l).Perm l
  | 0, l => List.Perm.refl l
  | k + 1, l => by
    unfold sortedL
    split
    · exact List.Perm.refl l
    · refine (List.merge_perm_append _).trans ?_
      refine ((sortedL_perm lt k _).append (sortedL_perm lt k _)).trans ?_
      rw [List.take_append_drop]
theorem sortedL_length (lt : Int → Int → Bool) (k : Nat) (l : List Int) : (sortedL lt k l).length = l.length := (sortedL_perm lt k l).length_eq
theorem sortedL_inR {n : Int} (lt : Int → Int → Bool) (k : Nat) (l : List Int) (h : InR n l) : InR n (sortedL lt k l) := fun x hx => h x ((sortedL_perm lt k l).mem_iff.1 hx)

theorem sortedL_short (lt : Int → Int → Bool) (k : Nat) (l : List Int) (h : l.length < 2) : sortedL lt k l = l := by
  cases k
  · rfl
  · rw [sortedL, if_pos h]

set_option maxHeartbeats 4000000 in
set_option maxRecDepth 100000 in
theorem sorted_calls (W0 : World) (b2 b3 : Nat) (n : Int) (lt : Int → Int → Bool) (HL0 : Aside0 (LessAt W0 b2 b3 n lt)) : ∀ (k : Nat) (w : World) (hB0 : Below W0.heap.size W0 w)
    (A : Option Addr) (c : Nat) (l : List Int) (hk : l.length ≤ 2 ^ k) (hx : InR n l) (ha : Kd.C (Kd.int .i64) w A l.length l) (hc : l.length ≤ c) (hlen : l.length ≤ 1000000),
    Calls Try.prog 47 #[.slice A l.length c, .func (.func 48) #[] #[.pointer (some ⟨b3, 0, none⟩), .pointer (some ⟨b2, 0, none⟩)]] w fun e w' =>
      ∃ (A1 : Option Addr) (c1 : Nat), e = .returned (.slice A1 (sortedL lt k l).length c1) ∧ (sortedL lt k l).length ≤ c1 ∧ Kd.C (Kd.int .i64) w' A1 (sortedL lt k l).length (sortedL lt k l)
        ∧ ((l.length < 2 ∧ A1 = A ∧ c1 = c) ∨ Kd.R (Kd.int .i64) 3 w' w.heap.size (fun _ => True) (.slice A1 (sortedL lt k l).length c1) (sortedL lt k l)) ∧ Below w.heap.size w w' := by
  intro k
  induction k with
  | zero =>
    intro w hB0 A c l hk hx ha hc hlen
    have hl : l.length < 2 := by simp at hk; omega
    have h2 : decide (l.length < 2) = true := decide_eq_true hl
    have h2i : decide ((l.length : Int) < 2) = true := decide_eq_true (by omega)
    have HA := Aside0.mk ha
    have HC := Aside0.mk hc
    clear ha hx hB0 hc hk
    go_enter Try.func47, Try.ntmps47
    go_wp2
    go_ret
    exact ⟨A, c, rfl, HC.out, HA.out, .inl ⟨hl, rfl, rfl⟩, Below.refl _ _⟩
  | succ k ih =>
    intro w hB0 A c l hk hx ha hc hlen
    obtain ⟨i0, hi0, hzz⟩ := Option.map_eq_some_iff.1 info3x
    simp only [Prod.mk.injEq] at hzz
    obtain ⟨hz0, hz1, hz2⟩ := hzz
    have HX := Aside0.mk hx
    have HA := Aside0.mk ha
    have HC := Aside0.mk hc
    have HB0 := Aside0.mk hB0
    have HK := Aside0.mk hk
    have HIH := Aside0.mk ih
    by_cases hl : l.length < 2
    · have h2 : decide (l.length < 2) = true := decide_eq_true hl
      have h2i : decide ((l.length : Int) < 2) = true := decide_eq_true (by omega)
      rw [sortedL_short lt _ l hl]
      clear hi0 hz0 hz1 hz2 hx ha hc hB0 hk ih
      go_enter Try.func47, Try.ntmps47
      go_wp2
      go_ret
      exact ⟨A, c, rfl, HC.out, HA.out, .inl ⟨hl, rfl, rfl⟩, Below.refl _ _⟩
    · have h2 : decide (l.length < 2) = false := decide_eq_false hl
      have h2i : decide ((l.length : Int) < 2) = false := decide_eq_false (by omega)
      have hj : ((l.length : Int) / 2).toNat = l.length / 2 := by omega
      have hr := Kd.reads_of_C (enc := Value.int .i64) (d := (0 : Int)) (h1 := fun _ => rfl) ha
      obtain ⟨hs1, hr1, hc1⟩ := print_take_of (P := Try.prog) (Value.int .i64) (0 : Int) 37 3 .i64 Try.underlying37 hi0 hz1 A c l ((l.length : Int) / 2) (by omega) (by omega) hc
      obtain ⟨A2, hs2, hr2, hc2⟩ := print_drop_of (P := Try.prog) (Value.int .i64) (0 : Int) 37 3 .i64 Try.underlying37 hi0 hz1 A c l ((l.length : Int) / 2) (by omega) (by omega) hc
      have hC1 := Kd.C_of_reads (d := (0 : Int)) (h1 := fun _ => rfl) (hr1 w hr)
      have hC2 := Kd.C_of_reads (d := (0 : Int)) (h1 := fun _ => rfl) (hr2 w hr)
      rw [hj] at hs1 hc1 hs2 hc2 hC1 hC2
      have he : sortedL lt (k + 1) l = mergeL lt (sortedL lt k (l.take (l.length / 2))) (sortedL lt k (l.drop (l.length / 2))) := by rw [sortedL, if_neg hl]
      have hn1 : (l.take (l.length / 2)).length = l.length / 2 := by rw [List.length_take]; omega
      have hn2 : (l.drop (l.length / 2)).length = l.length - l.length / 2 := List.length_drop
      have hx1 : InR n (l.take (l.length / 2)) := fun x h => hx x (List.mem_of_mem_take h)
      have hx2 : InR n (l.drop (l.length / 2)) := fun x h => hx x (List.mem_of_mem_drop h)
      rw [he]
      generalize l.take (l.length / 2) = l1 at *
      generalize l.drop (l.length / 2) = l2 at *
      have hp : (2 : Nat) ^ (k + 1) = 2 * 2 ^ k := by rw [Nat.pow_succ]; omega
      have HK1 := Aside0.mk (show l1.length ≤ 2 ^ k by omega)
      have HK2 := Aside0.mk (show l2.length ≤ 2 ^ k by omega)
      have HN1 := Aside0.mk hn1
      have HN2 := Aside0.mk hn2
      have HX1 := Aside0.mk hx1
      have HX2 := Aside0.mk hx2
      have HC1 := Aside0.mk hC1
      have HC2 := Aside0.mk hC2
      have Hc1 := Aside0.mk hc1
      have Hc2 := Aside0.mk hc2
      generalize hcc : c - l.length / 2 = c2 at *
      clear hi0 hz0 hz1 hz2 hx ha hc hB0 hk ih hj hr hr1 hr2 hn1 hn2 hx1 hx2 hp hC1 hC2 hc1 hc2 he hcc
      have HBd := Aside0.mk (below_drew (Below.refl w.heap.size w))
      have HI1 := Aside0.mk (HIH.out w.drew (below_then HB0.out HB0.out.size HBd.out) A c l1 HK1.out HX1.out (Kd.C_drew HC1.out) Hc1.out (by have := HN1.out; omega))
      have HI2 := Aside0.mk (fun w1 (HB3 : Below w.heap.size w w1) => HIH.out w1 (below_then HB0.out HB0.out.size HB3) A2 c2 l2 HK2.out HX2.out (Kd.C_below HC2.out HB3) Hc2.out (by have := HN2.out; omega))
      have HMM := Aside0.mk (fun w2 (HB4 : Below w.heap.size w w2) A3 A4 c3 c4 h1 h2 h3 h4 => merge_calls W0 b2 b3 n lt HL0 w2 (below_then HB0.out HB0.out.size HB4) A3 A4 c3 c4 _ _ (sortedL_inR lt k l1 HX1.out) (sortedL_inR lt k l2 HX2.out) h1 h2 h3 h4 (by rw [sortedL_length, sortedL_length, HN1.out, HN2.out]; omega))
      clear HL0 HIH HX1 HX2 HK1 HK2 HN1 HN2 HB0 HX HA HC HK Hc1 Hc2 HC1 HC2
      generalize sortedL lt k l1 = r1 at *
      generalize sortedL lt k l2 = r2 at *
      generalize mergeL lt r1 r2 = r at *
      go_enter Try.func47, Try.ntmps47
      go_wp2
      go_region_with (first
        | (go_at_call 47; refine HI1.out.mono ?_; rintro e w1 ⟨A3, c3, rfl, hc3, hC3, -, hb3⟩; have HB3 := Aside0.mk (below_step HBd.out hb3); have HC3 := Aside0.mk hC3; have Hc3 := Aside0.mk hc3; clear hb3 hC3 hc3 HI1)
        | (go_at_call 47; refine (HI2.out _ HB3.out).mono ?_; rintro e w2 ⟨A4, c4, rfl, hc4, hC4, -, hb4⟩; have HB4 := Aside0.mk (below_step HB3.out hb4); have HC4 := Aside0.mk hC4; have Hc4 := Aside0.mk hc4; have HC5 := Aside0.mk (Kd.C_below HC3.out hb4); clear hb4 hC4 hc4 HI2)
        | (go_at_call 56; refine (HMM.out w2 HB4.out A3 A4 c3 c4 HC5.out Hc3.out HC4.out Hc4.out).mono ?_; rintro e w3 ⟨v5, rfl, hR5, hb5⟩; have HB5 := Aside0.mk (below_step HB4.out hb5); have HR5 := Aside0.mk (Kd.R_lower hR5 (below_size HB4.out)); clear hR5 hb5))
      all_goals
        (try go_wp2)
        go_ret
        obtain ⟨A6, c6, rfl⟩ := Kd.R_slice HR5.out
        exact ⟨A6, c6, rfl, (Kd.R_reads' HR5.out).2.1, (Kd.R_reads' HR5.out).2.2, .inr HR5.out, HB5.out⟩
end Go.Proofs.Ytpamgedmgjfjjaa.M
