/-
Lemmas for JstrAll, for every input they speak of: XParts.
-/
import Derived.Test.YtpamgedmgjfjjaaDoorKJstrAll03
import Derived.Test.YtpamgedmgjfjjaaDoorKJstrAll04
namespace Go.Proofs.YtpamgedmgjfjjaaDoor.M
open Go.RowKit Go.Proofs.YtpamgedmgjfjjaaDoorW.PrintWords Go.Proofs.YtpamgedmgjfjjaaDoorW.PrintLast Go.Proofs.YtpamgedmgjfjjaaDoorW.PrintMore
open Go.Lib
set_option linter.unusedVariables false
set_option linter.unusedSimpArgs false
theorem rL_len : ∀ (f : Nat) (l : List UInt8), (rL f l).length ≤ l.length
  | 0, l => by simp [rL]
  | f + 1, l => by
    rw [rL]
    by_cases h : l = []
    · rw [if_pos h]; simp
    · have hp := dec_pos l
      have hl := List.length_pos_iff.2 h
      have ih := rL_len f (l.drop (decodeL l).2)
      rw [List.length_drop] at ih
      rw [if_neg h, List.length_cons]
      omega
theorem rAll_len (l : List UInt8) : (rAll l).length ≤ l.length := rL_len _ _
end Go.Proofs.YtpamgedmgjfjjaaDoor.M
