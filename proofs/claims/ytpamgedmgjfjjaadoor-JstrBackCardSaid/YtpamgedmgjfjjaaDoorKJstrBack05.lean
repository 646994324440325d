/-
Lemmas for JstrBack, for every input they speak of: XParts, XRunesLaw.
-/
import Derived.Test.YtpamgedmgjfjjaaDoorKJstrBack03
import Derived.Test.YtpamgedmgjfjjaaDoorKJstrBack04
section
namespace Go.Proofs.YtpamgedmgjfjjaaDoor.M
open Go.RowKit Go.Proofs.YtpamgedmgjfjjaaDoorW.PrintWords Go.Proofs.YtpamgedmgjfjjaaDoorW.PrintLast Go.Proofs.YtpamgedmgjfjjaaDoorW.PrintMore
open Go.Lib
set_option linter.unusedVariables false
set_option linter.unusedSimpArgs false
theorem rL_len : ∀ (f : Nat) (l : List UInt8), (rL f l).length ≤ l.length
  | 0, l => by simp [rL]
  | f + 1, l => by
    rw [rL]
    by_cases h : l = []
    · rw [if_pos h]; simp
    · have hp := dec_pos l
      have hl := List.length_pos_iff.2 h
      have ih := rL_len f (l.drop (decodeL l).2)
      rw [List.length_drop] at ih
      rw [if_neg h, List.length_cons]
      omega
theorem rAll_len (l : List UInt8) : (rAll l).length ≤ l.length := rL_len _ _
end Go.Proofs.YtpamgedmgjfjjaaDoor.M
end
section
namespace Go.Proofs.YtpamgedmgjfjjaaDoor.M
open Go.RowKit Go.Proofs.YtpamgedmgjfjjaaDoorW.PrintWords Go.Proofs.YtpamgedmgjfjjaaDoorW.PrintLast Go.Proofs.YtpamgedmgjfjjaaDoorW.PrintMore
open Go.Lib
set_option linter.unusedVariables false
set_option linter.unusedSimpArgs false
theorem xplace_w (a n : Int) (h0 : 0 < n) (h1 : n ≤ 4000000000000) : ∃ r, erratumlaw00_Place.f a n = some r ∧ 0 ≤ r ∧ r < n := by
  unfold erratumlaw00_Place.f
  have hb := Int.tmod_lt_of_pos a h0
  have hc : -n < Int.tmod a n := by
    have := Int.tmod_lt_of_pos (-a) h0
    rw [Int.neg_tmod] at this
    omega
  rw [if_neg (by omega)]
  split
  · refine ⟨_, rfl, ?_⟩
    unfold wrap64
    omega
  · exact ⟨_, rfl, by omega, hb⟩
end Go.Proofs.YtpamgedmgjfjjaaDoor.M
end
