/-
Plain laws on what chead.Get tells (getS), for the program and for the document's own answer.
-/
import Derived.Test.YtpamgedmgjfjjaaM4
import Derived.Test.YtpamgedmgjfjjaaM5
import Derived.Test.YtpamgedmgjfjjaaXHead
namespace Go.Proofs.Ytpamgedmgjfjjaa.M
open Go.RowKit Go.Proofs.YtpamgedmgjfjjaaW.PrintWords Go.Proofs.YtpamgedmgjfjjaaW.PrintLast Go.Proofs.YtpamgedmgjfjjaaW.PrintMore
set_option linter.unusedVariables false

/-- The number of bytes, the highest first. -/
def bv (l : List Int) : Int := l.foldl (fun v d => v * 256 + d) 0
theorem bv_snoc (l : List Int) (d : Int) : bv (l ++ [d]) = bv l * 256 + d := by simp [bv]
theorem bv_range_take (y : List Int) (hy : Bytes y) : ∀ i, i ≤ y.length → 0 ≤ bv (y.take i) ∧ bv (y.take i) < 256 ^ i
  | 0, _ => by simp [bv]
  | i + 1, h => by
    have hi : i < y.length := h
    have ih := bv_range_take y hy i (by omega)
    rw [List.take_succ_eq_append_getElem hi, bv_snoc, Int.pow_succ]
    have hb := hy y[i] (List.getElem_mem hi)
    generalize (256 : Int) ^ i = z at *
    omega
theorem bv_range (y : List Int) (hy : Bytes y) : 0 ≤ bv y ∧ bv y < 256 ^ y.length := by
  have := bv_range_take y hy y.length (Nat.le_refl _)
  rwa [List.take_length] at this
theorem pow_le8 (i : Nat) (h : i ≤ 7) : (256 : Int) ^ i ≤ 72057594037927936 := by
  have : i = 0 ∨ i = 1 ∨ i = 2 ∨ i = 3 ∨ i = 4 ∨ i = 5 ∨ i = 6 ∨ i = 7 := by omega
  rcases this with rfl | rfl | rfl | rfl | rfl | rfl | rfl | rfl <;> decide
theorem wrap_u64 (n : Int) (h0 : 0 ≤ n) (h1 : n ≤ 18446744073709551615) : IntKind.u64.wrap n = n := by
  simp [IntKind.wrap, IntKind.bits, IntKind.signed]; omega
theorem wrap_u64p (n : Int) (h₀ : 0 ≤ n) (h₁ : n < 2 ^ 64) : IntKind.u64.wrap n = n := by
  have e : (2 : Int) ^ 64 = 18446744073709551616 := rfl
  exact wrap_u64 n h₀ (by omega)
theorem or_step (v d : Int) (h0 : 0 ≤ v) (h1 : v < 72057594037927936) (hd : 0 ≤ d) (hd' : d < 256) : Go.bits .or .u64 (IntKind.u64.wrap (v * 256)) (IntKind.u64.wrap d) = v * 256 + d := by
  rw [wrap_u64 (v * 256) (by omega) (by omega), wrap_u64 d (by omega) (by omega)]
  have e : (2 : Int) ^ 64 = 18446744073709551616 := rfl
  exact bits_join .u64 64 (by decide) wrap_u64p 8 (v * 256) d (by omega) (by omega) (by omega) hd (by omega) (by omega)
theorem rd_at (y : List Int) (i : Nat) (h : i < y.length) : rd y (i : Int) = y[i] := by
  simp [rd, List.getD_eq_getElem?_getD, h]
theorem rd_bytes (y : List Int) (hy : Bytes y) (i : Int) (h0 : 0 ≤ i) (h1 : i < y.length) : 0 ≤ rd y i ∧ rd y i < 256 := by
  obtain ⟨j, rfl⟩ := Int.eq_ofNat_of_zero_le h0
  rw [rd_at y j (by omega)]
  exact hy _ (List.getElem_mem _)
theorem get_l0 (x1 x4 x5 x9 : Int) (y : List Int) (hy : Bytes y) (h8 : y.length ≤ 8) : ∀ (d i k : Nat), y.length - i = d → i ≤ y.length → d < k →
    chead_Get.l0 k x1 x4 x5 (bv (y.take i)) x9 y (y.length : Int) (i : Int) = some (x4, x5, bv y, wrap64 ((wrap64 (x1 + 1)) + x9), 0)
  | 0, i, k, hd, hi, hk => by
    obtain ⟨k, rfl⟩ : ∃ m, k = m + 1 := ⟨k - 1, by omega⟩
    obtain rfl : i = y.length := by omega
    simp only [chead_Get.l0]
    rw [if_neg (by omega), List.take_length]
  | d + 1, i, k, hd, hi, hk => by
    obtain ⟨k, rfl⟩ : ∃ m, k = m + 1 := ⟨k - 1, by omega⟩
    have hlt : i < y.length := by omega
    simp only [chead_Get.l0]
    have hb := hy y[i] (List.getElem_mem hlt)
    have hr := bv_range_take y hy i (by omega)
    have hp := pow_le8 i (by omega)
    rw [if_pos (by omega), if_pos (by omega), if_pos (by omega), rd_at y i hlt, or_step _ _ hr.1 (by omega) hb.1 hb.2, show wrap64 ((i : Int) + 1) = ((i + 1 : Nat) : Int) by unfold wrap64; omega]
    have e : bv (y.take i) * 256 + y[i] = bv (y.take (i + 1)) := by rw [List.take_succ_eq_append_getElem hlt, bv_snoc]
    rw [e]
    exact get_l0 x1 x4 x5 x9 y hy h8 d (i + 1) k (by omega) (by omega) (by omega)
theorem w64 (n : Int) (h0 : -9223372036854775808 ≤ n) (h1 : n ≤ 9223372036854775807) : wrap64 n = n := by
  unfold wrap64
  omega
theorem ref_l0 (x0 : List Int) (h0 : Bytes x0) (x1 x9 x10 : Int) (n : Nat) (hx1 : 0 ≤ x1) (hn : n ≤ 8) (hl : x1 + 1 + n ≤ x0.length) (hm : x0.length ≤ 1000000) (d : Nat) : ∀ (i k : Nat), n - i = d → i ≤ n → d < k →
    erratumref09_Get.l0 k x0 x1 x9 x10 (n : Int) (bv ((x0.drop (x1 + 1).toNat).take i)) (i : Int) = some (x9, x10, bv ((x0.drop (x1 + 1).toNat).take n), wrap64 ((wrap64 (x1 + 1)) + (n : Int)), 0) := by
  induction d with
  | zero =>
    intro i k hd hi hk
    obtain ⟨k, rfl⟩ : ∃ m, k = m + 1 := ⟨k - 1, by omega⟩
    obtain rfl : i = n := by omega
    simp only [erratumref09_Get.l0]
    rw [if_neg (by omega)]
  | succ d ih =>
    intro i k hd hi hk
    obtain ⟨k, rfl⟩ : ∃ m, k = m + 1 := ⟨k - 1, by omega⟩
    have hlen : i < (x0.drop (x1 + 1).toNat).length := by rw [List.length_drop]; omega
    have hB : Bytes (x0.drop (x1 + 1).toNat) := fun z hz => h0 z (List.mem_of_mem_drop hz)
    have hr := bv_range_take _ hB i (by omega)
    have hp := pow_le8 i (by omega)
    have hb := hB _ (List.getElem_mem hlen)
    have e4 : rd x0 (x1 + 1 + (i : Int)) = (x0.drop (x1 + 1).toNat)[i] := by
      rw [show x1 + 1 + (i : Int) = (((x1 + 1).toNat + i : Nat) : Int) by omega, rd_at x0 _ (by omega), List.getElem_drop]
    have e : bv ((x0.drop (x1 + 1).toNat).take i) * 256 + (x0.drop (x1 + 1).toNat)[i] = bv ((x0.drop (x1 + 1).toNat).take (i + 1)) := by rw [List.take_succ_eq_append_getElem hlen, bv_snoc]
    have hi' : (i : Int) < (n : Int) := by omega
    have b1 : 0 ≤ x1 + 1 + (i : Int) := by omega
    have b2 : x1 + 1 + (i : Int) < (x0.length : Int) := by omega
    have ihs := ih (i + 1) k (by omega) (by omega) (by omega)
    have w1 := w64 (x1 + 1) (by omega) (by omega)
    have w2 := w64 (x1 + 1 + (i : Int)) (by omega) (by omega)
    have w3 := w64 ((i : Int) + 1) (by omega) (by omega)
    have u1 := wrap_u64 _ (Int.mul_nonneg hr.1 (show (0 : Int) ≤ 256 by decide)) (by omega)
    have u2 := wrap_u64 _ hb.1 (by omega)
    have u3 := wrap_u64 _ (show 0 ≤ bv ((x0.drop (x1 + 1).toNat).take i) * 256 + (x0.drop (x1 + 1).toNat)[i] by omega) (by omega)
    simp only [erratumref09_Get.l0]
    rw [if_pos hi', w1, w2, if_pos b1, if_pos b2, e4, u1, u2, u3, w3, e]
    rw [w1] at ihs
    exact ihs

/-- How many bytes a number has behind its first one. -/
def sizeS (i : Int) : Nat := if i = 27 then 8 else if i = 26 then 4 else if i = 25 then 2 else if i = 24 then 1 else 0
theorem size_eq (i : Int) : chead_size.f i = some ((sizeS i : Nat) : Int) := by
  unfold chead_size.f sizeS
  repeat' split
  all_goals rfl
theorem size_le (i : Int) : sizeS i ≤ 8 := by
  unfold sizeS
  repeat' split
  all_goals omega
/-- What Get tells. -/
def getS (l : List Int) (at_ : Int) : Int × Int × Int × Int × Int :=
  if at_ < 0 ∨ at_ > (l.length : Int) then (0, 0, 0, 0, 1)
  else if at_ = (l.length : Int) then (0, 0, 0, 0, 2)
  else if (rd l at_ % 32 > 27 ∧ rd l at_ % 32 ≠ 31) ∨ (sizeS (rd l at_ % 32) : Int) > (l.length : Int) - at_ - 1 then (0, 0, 0, 0, 2)
  else (rd l at_ / 32, rd l at_ % 32, if rd l at_ % 32 < 24 then rd l at_ % 32 else bv ((l.drop (at_ + 1).toNat).take (sizeS (rd l at_ % 32))), at_ + 1 + sizeS (rd l at_ % 32), 0)
theorem cut_eq (l : List Int) (a n : Nat) : (l.take (a + n)).drop a = (l.drop a).take n := by
  rw [List.drop_take, Nat.add_sub_cancel_left]
theorem get_eq (l : List Int) (hl : Bytes l) (hm : l.length ≤ 1000000) (at_ : Int) (k : Nat) (hk : 20 ≤ k) : chead_Get.f k l at_ = some (getS l at_) := by
  obtain ⟨k, rfl⟩ : ∃ m, k = m + 20 := ⟨k - 20, by omega⟩
  unfold chead_Get.f getS
  by_cases h1 : at_ < 0
  · rw [if_pos h1, if_pos (.inl h1)]
    simp [chead_Get.j0]
  · rw [if_neg h1]
    by_cases h2 : at_ > (l.length : Int)
    · rw [if_pos (.inr h2), decide_eq_true h2]
      simp [chead_Get.j0]
    · rw [if_neg (fun h => h.elim h1 h2), decide_eq_false h2]
      simp only [chead_Get.j0]
      rw [if_neg (by decide)]
      by_cases h3 : at_ = (l.length : Int)
      · rw [if_pos h3, if_pos h3]
      · rw [if_neg h3, if_neg h3, if_pos (by omega), if_pos (by omega)]
        have hb := rd_bytes l hl at_ (by omega) (by omega)
        rw [u8_and31 _ hb.1 hb.2]
        generalize hbb : rd l at_ = b at *
        have e1 : wrap64 (b % 32) = b % 32 := by unfold wrap64; omega
        have e2 : wrap64 (b / 32) = b / 32 := by unfold wrap64; omega
        have e3 : wrap64 (wrap64 ((l.length : Int) - at_) - 1) = (l.length : Int) - at_ - 1 := by unfold wrap64; omega
        rw [e1, e2, e3, size_eq]
        simp only [Option.bind_some]
        generalize hi : b % 32 = i at *
        have hs := size_le i
        have tail : ∀ x6 : Int, (i < 24 → x6 = i) → (¬ i < 24 → x6 = 0) → ¬ ((sizeS i : Int) > (l.length : Int) - at_ - 1) → chead_Get.j2 (k + 18) l at_ (b / 32) i x6 (sizeS i : Int) =
            some (b / 32, i, if i < 24 then i else bv ((l.drop (at_ + 1).toNat).take (sizeS i)), at_ + 1 + sizeS i, 0) := by
          intro x6 hx hx' hfit
          simp only [chead_Get.j2]
          have f1 : wrap64 (at_ + 1) = at_ + 1 := by unfold wrap64; omega
          have f2 : wrap64 (at_ + 1 + (sizeS i : Int)) = at_ + 1 + sizeS i := by unfold wrap64; omega
          rw [f1, f2, if_pos (by omega), if_pos (by omega), if_pos (by omega)]
          simp only [Option.bind_some]
          have f3 : (at_ + 1 + (sizeS i : Int)).toNat = (at_ + 1).toNat + sizeS i := by omega
          rw [f3, cut_eq]
          have hyl : ((l.drop (at_ + 1).toNat).take (sizeS i)).length = sizeS i := by rw [List.length_take, List.length_drop]; omega
          have hyB : Bytes ((l.drop (at_ + 1).toNat).take (sizeS i)) := fun z hz => hl z (List.mem_of_mem_drop (List.mem_of_mem_take hz))
          by_cases h24 : i < 24
          · have hz : sizeS i = 0 := by unfold sizeS; repeat' split
                                        all_goals omega
            rw [if_pos h24, hx h24, hz]
            simp [chead_Get.l0, f1]
          · rw [if_neg h24, hx' h24]
            have hg := get_l0 at_ (b / 32) i (sizeS i : Int) _ hyB (by omega) (sizeS i) 0 (k + 17) (by omega) (by omega) (by omega)
            simp only [List.take_zero] at hg
            rw [show bv [] = 0 from rfl] at hg
            rw [show ((0 : Nat) : Int) = 0 from rfl] at hg
            rw [hg, f1, f2]
        have join : ∀ c : Bool, c = decide ((rd l at_ % 32 > 27 ∧ rd l at_ % 32 ≠ 31) ∨ (sizeS (rd l at_ % 32) : Int) > (l.length : Int) - at_ - 1) → chead_Get.j1 (k + 19) l at_ (b / 32) i 0 (sizeS i : Int) c =
            some (if (i > 27 ∧ i ≠ 31) ∨ (sizeS i : Int) > (l.length : Int) - at_ - 1 then (0, 0, 0, 0, 2) else (b / 32, i, if i < 24 then i else bv ((l.drop (at_ + 1).toNat).take (sizeS i)), at_ + 1 + sizeS i, 0)) := by
          intro c hc
          rw [hbb, hi] at hc
          subst hc
          simp only [chead_Get.j1]
          by_cases hbad : (i > 27 ∧ i ≠ 31) ∨ (sizeS i : Int) > (l.length : Int) - at_ - 1
          · rw [if_pos (decide_eq_true hbad), if_pos hbad]
          · rw [if_neg (by simpa using hbad), if_neg hbad]
            by_cases h24 : i < 24
            · rw [if_pos h24, wrap_u64 i (by omega) (by omega)]
              exact tail i (fun _ => rfl) (fun h => absurd h24 h) (fun h => hbad (.inr h))
            · rw [if_neg h24]
              exact tail 0 (fun h => absurd h h24) (fun _ => rfl) (fun h => hbad (.inr h))
        by_cases h27 : i > 27
        · rw [if_pos h27]
          by_cases h31 : i = 31
          · rw [if_pos h31]
            exact join _ (by rw [hbb, hi]; simp [h31])
          · rw [if_neg h31]
            exact join _ (by rw [hbb, hi]; simp [h27, h31])
        · rw [if_neg h27]
          exact join _ (by rw [hbb, hi]; simp [h27])
theorem ref_get_eq (l : List Int) (hl : Bytes l) (hm : l.length ≤ 1000000) (at_ : Int) (k : Nat) (hk : 20 ≤ k) : erratumref09_Get.f k l at_ = some (getS l at_) := by
  obtain ⟨k, rfl⟩ : ∃ m, k = m + 20 := ⟨k - 20, by omega⟩
  unfold erratumref09_Get.f getS
  by_cases h1 : at_ < 0
  · rw [if_pos h1, if_pos (.inl h1)]
    simp [erratumref09_Get.j0]
  · rw [if_neg h1]
    by_cases h2 : at_ > (l.length : Int)
    · rw [if_pos (.inr h2), decide_eq_true h2]
      simp [erratumref09_Get.j0]
    · rw [if_neg (fun h => h.elim h1 h2), decide_eq_false h2]
      simp only [erratumref09_Get.j0]
      rw [if_neg (by decide)]
      by_cases h3 : at_ = (l.length : Int)
      · rw [if_pos h3, if_pos h3]
      · rw [if_neg h3, if_neg h3, if_pos (by omega), if_pos (by omega)]
        have hb := rd_bytes l hl at_ (by omega) (by omega)
        rw [u8_and31 _ hb.1 hb.2]
        generalize hbb : rd l at_ = b at *
        have e1 : wrap64 (b % 32) = b % 32 := by unfold wrap64; omega
        have e2 : wrap64 (b / 32) = b / 32 := by unfold wrap64; omega
        have e3 : wrap64 (wrap64 ((l.length : Int) - at_) - 1) = (l.length : Int) - at_ - 1 := by unfold wrap64; omega
        have e4 : wrap64 (at_ + 1) = at_ + 1 := by unfold wrap64; omega
        rw [e1, e2, e3, e4]
        generalize hi : b % 32 = i at *
        have hs := size_le i
        by_cases h24 : i < 24
        · have hz : sizeS i = 0 := by unfold sizeS; repeat' split
                                      all_goals omega
          rw [if_pos h24, if_neg (by rw [hz]; omega), if_pos h24, hz, wrap_u64 i (by omega) (by omega)]
          simp
        · rw [if_neg h24]
          by_cases h31 : i = 31
          · have hz : sizeS i = 0 := by subst h31; decide
            rw [if_pos h31, if_neg (by rw [hz]; omega), if_neg h24, hz]
            simp [bv]
          · rw [if_neg h31]
            by_cases h27 : i > 27
            · rw [if_pos h27, if_pos (.inl ⟨h27, h31⟩)]
            · rw [if_neg h27]
              have f0 : wrap64 (i - 24) = i - 24 := by unfold wrap64; omega
              have f1 : IntKind.u64.wrap (i - 24) = i - 24 := wrap_u64 _ (by omega) (by omega)
              have f2 : shl .i64 1 (i - 24) = (sizeS i : Int) := by
                have : i = 24 ∨ i = 25 ∨ i = 26 ∨ i = 27 := by omega
                rcases this with rfl | rfl | rfl | rfl <;> decide
              rw [f0, f1, f2, if_pos (by omega)]
              by_cases hfit : (l.length : Int) - at_ - 1 < (sizeS i : Int)
              · rw [if_pos hfit, if_pos (.inr hfit)]
              · rw [if_neg hfit, if_neg (fun h => h.elim (fun h => h27 h.1) hfit), if_neg h24]
                have hg := ref_l0 l hl at_ (b / 32) i (sizeS i) (by omega) hs (by omega) hm (sizeS i) 0 (k + 19) (by omega) (by omega) (by omega)
                simp only [List.take_zero] at hg
                rw [show bv [] = 0 from rfl, show ((0 : Nat) : Int) = 0 from rfl, e4] at hg
                rw [hg, show wrap64 (at_ + 1 + (sizeS i : Int)) = at_ + 1 + sizeS i by unfold wrap64; omega]
end Go.Proofs.Ytpamgedmgjfjjaa.M
