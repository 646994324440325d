/-
Plain laws of decoding: a good rune hangs on its own bytes alone; what goes on and what begins.
-/
import Derived.Test.YtpamgedmgjfjjaaDoorXAwake
namespace Go.Proofs.YtpamgedmgjfjjaaDoor.M
open Go.RowKit Go.Proofs.YtpamgedmgjfjjaaDoorW.PrintWords
open Go.Lib
set_option linter.unusedVariables false
set_option linter.unusedSimpArgs false

/-- No rune. -/
def Bad (d : Nat × Nat) : Prop := d.1 = 65533 ∧ d.2 = 1
instance (d : Nat × Nat) : Decidable (Bad d) := inferInstanceAs (Decidable (_ ∧ _))
/-- How a good rune's bytes look: its width, its first byte, those behind. -/
theorem good_shape (n b0 b1 b2 b3 : Nat) (h : ¬ Bad (decodeN n b0 b1 b2 b3)) (hn : 0 < n) :
    ((decodeN n b0 b1 b2 b3).2 = 1 ∧ b0 < 128) ∨ ((decodeN n b0 b1 b2 b3).2 = 2 ∧ 1 < n ∧ b0 / 32 = 6 ∧ b1 / 64 = 2) ∨ ((decodeN n b0 b1 b2 b3).2 = 3 ∧ 2 < n ∧ b0 / 16 = 14 ∧ b1 / 64 = 2 ∧ b2 / 64 = 2)
      ∨ ((decodeN n b0 b1 b2 b3).2 = 4 ∧ 3 < n ∧ b0 / 8 = 30 ∧ b1 / 64 = 2 ∧ b2 / 64 = 2 ∧ b3 / 64 = 2) := by
  unfold Bad decodeN at *
  repeat' split
  all_goals first | (simp_all; done) | (simp_all; omega)
/-- A good rune hangs on its own bytes alone. -/
theorem good_same (n n' b0 b1 b2 b3 c1 c2 c3 : Nat) (h : ¬ Bad (decodeN n b0 b1 b2 b3)) (hn : 0 < n) (hn' : (decodeN n b0 b1 b2 b3).2 ≤ n')
    (h1 : 1 < (decodeN n b0 b1 b2 b3).2 → c1 = b1) (h2 : 2 < (decodeN n b0 b1 b2 b3).2 → c2 = b2) (h3 : 3 < (decodeN n b0 b1 b2 b3).2 → c3 = b3) : decodeN n' b0 c1 c2 c3 = decodeN n b0 b1 b2 b3 := by
  rcases good_shape n b0 b1 b2 b3 h hn with ⟨hw, hb⟩ | ⟨hw, hb⟩ | ⟨hw, hb⟩ | ⟨hw, hb⟩
  · rw [hw] at hn'
    unfold decodeN
    rw [if_pos hb, if_pos hb]
  · rw [hw] at hn' h1
    have e1 := h1 (by omega)
    subst e1
    have a1 : ¬ b0 < 128 := by omega
    unfold decodeN
    rw [if_neg a1, if_neg a1, if_pos (show b0 / 32 = 6 ∧ (1 < n' ∧ c1 / 64 = 2) from ⟨hb.2.1, by omega, hb.2.2⟩), if_pos (show b0 / 32 = 6 ∧ (1 < n ∧ c1 / 64 = 2) from ⟨hb.2.1, hb.1, hb.2.2⟩)]
  · rw [hw] at hn' h1 h2
    have e1 := h1 (by omega)
    have e2 := h2 (by omega)
    subst e1 e2
    have a1 : ¬ b0 < 128 := by omega
    have a2 : ∀ m : Nat, ¬ (b0 / 32 = 6 ∧ (1 < m ∧ c1 / 64 = 2)) := fun m => by omega
    unfold decodeN
    rw [if_neg a1, if_neg a1, if_neg (a2 _), if_neg (a2 _), if_pos (show b0 / 16 = 14 ∧ (1 < n' ∧ c1 / 64 = 2) ∧ (2 < n' ∧ c2 / 64 = 2) from ⟨hb.2.1, ⟨by omega, hb.2.2.1⟩, ⟨by omega, hb.2.2.2⟩⟩), if_pos (show b0 / 16 = 14 ∧ (1 < n ∧ c1 / 64 = 2) ∧ (2 < n ∧ c2 / 64 = 2) from ⟨hb.2.1, ⟨by omega, hb.2.2.1⟩, ⟨by omega, hb.2.2.2⟩⟩)]
  · rw [hw] at hn' h1 h2 h3
    have e1 := h1 (by omega)
    have e2 := h2 (by omega)
    have e3 := h3 (by omega)
    subst e1 e2 e3
    have a1 : ¬ b0 < 128 := by omega
    have a2 : ∀ m : Nat, ¬ (b0 / 32 = 6 ∧ (1 < m ∧ c1 / 64 = 2)) := fun m => by omega
    have a3 : ∀ m : Nat, ¬ (b0 / 16 = 14 ∧ (1 < m ∧ c1 / 64 = 2) ∧ (2 < m ∧ c2 / 64 = 2)) := fun m => by omega
    unfold decodeN
    rw [if_neg a1, if_neg a1, if_neg (a2 _), if_neg (a2 _), if_neg (a3 _), if_neg (a3 _), if_pos (show b0 / 8 = 30 ∧ (1 < n' ∧ c1 / 64 = 2) ∧ (2 < n' ∧ c2 / 64 = 2) ∧ (3 < n' ∧ c3 / 64 = 2) from ⟨hb.2.1, ⟨by omega, hb.2.2.1⟩, ⟨by omega, hb.2.2.2.1⟩, ⟨by omega, hb.2.2.2.2⟩⟩), if_pos (show b0 / 8 = 30 ∧ (1 < n ∧ c1 / 64 = 2) ∧ (2 < n ∧ c2 / 64 = 2) ∧ (3 < n ∧ c3 / 64 = 2) from ⟨hb.2.1, ⟨by omega, hb.2.2.1⟩, ⟨by omega, hb.2.2.2.1⟩, ⟨by omega, hb.2.2.2.2⟩⟩)]
/-- A byte that goes on begins no rune. -/
theorem cont_bad (n b0 b1 b2 b3 : Nat) (h : b0 / 64 = 2) : Bad (decodeN n b0 b1 b2 b3) := by
  unfold Bad decodeN
  rw [if_neg (by omega), if_neg (by omega), if_neg (by omega), if_neg (by omega)]
  exact ⟨rfl, rfl⟩
/-- A front part of a good rune is none. -/
theorem front_bad (n n' b0 b1 b2 b3 c1 c2 c3 : Nat) (h : ¬ Bad (decodeN n b0 b1 b2 b3)) (hn : 0 < n) (h0n : 0 < n') (hn' : n' < (decodeN n b0 b1 b2 b3).2) : Bad (decodeN n' b0 c1 c2 c3) := by
  rcases good_shape n b0 b1 b2 b3 h hn with ⟨hw, hb⟩ | ⟨hw, hb⟩ | ⟨hw, hb⟩ | ⟨hw, hb⟩
  all_goals
    rw [hw] at hn'
    unfold Bad decodeN
    by_cases h0 : b0 < 128
    · exfalso
      omega
    · rw [if_neg h0, if_neg (by omega), if_neg (by omega), if_neg (by omega)]
      exact ⟨rfl, rfl⟩
end Go.Proofs.YtpamgedmgjfjjaaDoor.M
