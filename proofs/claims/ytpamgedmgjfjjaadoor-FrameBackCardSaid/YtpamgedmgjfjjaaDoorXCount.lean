/-
Plain laws of the runes of a text: those of two texts, the first of them good, are those of both.
-/
import Derived.Test.YtpamgedmgjfjjaaDoorXText
namespace Go.Proofs.YtpamgedmgjfjjaaDoor.M
open Go.RowKit Go.Proofs.YtpamgedmgjfjjaaDoorW.PrintWords
open Go.Lib
set_option linter.unusedVariables false
set_option linter.unusedSimpArgs false

theorem bad_two {d : Nat × Nat} (h : Bad d) : d.2 = 1 := h.2
theorem dec_le' (l : List UInt8) (h : l ≠ []) : (decodeL l).2 ≤ l.length := by
  by_cases hb : Bad (decodeL l)
  · rw [bad_two hb]
    exact List.length_pos_iff.2 h
  · exact dec_le l h hb
/-- The rune at a text's head. -/
def headR (l : List UInt8) : Int := if Bad (decodeL l) then -1 else ((decodeL l).1 : Int)
/-- The runes of a text, by at most so many. -/
def rL : Nat → List UInt8 → List Int
  | 0, _ => []
  | f + 1, l => if l = [] then [] else headR l :: rL f (l.drop (decodeL l).2)
theorem rL_nil (f : Nat) : rL f [] = [] := by
  cases f <;> rfl
theorem rL_fuel : ∀ (f g : Nat) (l : List UInt8), l.length ≤ f → l.length ≤ g → rL f l = rL g l
  | 0, g, l, hf, hg => by
    obtain rfl : l = [] := List.length_eq_zero_iff.1 (by omega)
    rw [rL_nil, rL_nil]
  | f + 1, 0, l, hf, hg => by
    obtain rfl : l = [] := List.length_eq_zero_iff.1 (by omega)
    rw [rL_nil, rL_nil]
  | f + 1, g + 1, l, hf, hg => by
    rw [rL, rL]
    by_cases h : l = []
    · rw [if_pos h, if_pos h]
    · have hp := dec_pos l
      have hl := List.length_pos_iff.2 h
      rw [if_neg h, if_neg h, rL_fuel f g _ (by rw [List.length_drop]; omega) (by rw [List.length_drop]; omega)]
/-- All runes of a text. -/
def rAll (l : List UInt8) : List Int := rL l.length l
theorem rAll_nil : rAll [] = [] := rfl
theorem rAll_step (l : List UInt8) (h : l ≠ []) : rAll l = headR l :: rAll (l.drop (decodeL l).2) := by
  have hp := dec_pos l
  have hl := List.length_pos_iff.2 h
  unfold rAll
  obtain ⟨n, hn⟩ : ∃ n, l.length = n + 1 := ⟨l.length - 1, by omega⟩
  rw [hn, rL, if_neg h, rL_fuel n _ _ (by rw [List.length_drop]; omega) (Nat.le_refl _)]
theorem head_app (l m : List UInt8) (h : l ≠ []) (hb : ¬ Bad (decodeL l)) : headR (l ++ m) = headR l := by
  unfold headR
  rw [dec_app l m h hb]
theorem rAll_app {a : List UInt8} (ha : Good a) (b : List UInt8) : rAll (a ++ b) = rAll a ++ rAll b := by
  induction ha with
  | nil => rfl
  | rune l h hg _ ih =>
    rw [rAll_step (l ++ b) (by simp [h]), rAll_step l h, head_app l b h hg, dec_app l b h hg, List.drop_append_of_le_length (dec_le l h hg), ih]
    rfl
theorem runesU_rL (s : ByteArray) : ∀ (f pos : Nat), pos ≤ s.size → runesU s f pos = rL f (s.data.toList.drop pos)
  | 0, _, _ => rfl
  | f + 1, pos, hp => by
    have hl : s.data.toList.length = s.size := by rw [Array.length_toList]; rfl
    rw [runesU, rL]
    by_cases h : pos < s.size
    · have hne : ¬ (s.data.toList.drop pos = []) := by
        intro h0
        have := congrArg List.length h0
        rw [List.length_drop, hl, List.length_nil] at this
        omega
      have hle := dec_le' _ hne
      rw [decodeL_drop, List.length_drop, hl] at hle
      have e : (runeU s (pos : Int)).1 = headR (s.data.toList.drop pos) := by
        unfold runeU headR
        rw [if_neg (by omega), decodeL_drop, Int.toNat_natCast]
        by_cases hb : Bad (Utf8.decode s pos)
        · rw [if_pos hb, if_pos (show _ ∧ _ from hb)]
        · rw [if_neg hb, if_neg (show ¬ (_ ∧ _) from hb)]
      rw [if_pos h, if_neg hne, runesU_rL s f _ (by omega), e, decodeL_drop, List.drop_drop]
    · rw [if_neg h, if_pos (List.drop_eq_nil_of_le (by omega))]
/-- utf.Runes hands back all runes of a text. -/
theorem runesU_all (s : ByteArray) : runesU s s.size 0 = rAll s.data.toList := by
  have hl : s.data.toList.length = s.size := by rw [Array.length_toList]; rfl
  rw [runesU_rL s s.size 0 (Nat.zero_le _), List.drop_zero, rAll, hl]
end Go.Proofs.YtpamgedmgjfjjaaDoor.M
