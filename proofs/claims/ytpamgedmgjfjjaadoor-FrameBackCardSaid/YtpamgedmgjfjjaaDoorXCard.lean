/-
What the rows' list gives: the two tables of decoding; and the witness' world.
-/
import Derived.Test.YtpamgedmgjfjjaaDoorXUtf
import Derived.Test.YtpamgedmgjfjjaaDoorRows
import Derived.PinnedBridge
import Derived.Lib.LaidU8
import Derived.Lay
import Derived.MakeChecks
namespace Go.Proofs.YtpamgedmgjfjjaaDoor.M
open Go.RowKit Go.Lib Go.Shelf
theorem xU8 : U8Extra Tryd.prog Tryd.lays260_ren := ⟨by kernel_rfl, by kernel_rfl, by kernel_rfl, by kernel_rfl, by kernel_rfl, by kernel_rfl, by kernel_rfl⟩
abbrev laidL : List (String × DataW Unit) := [("unicode/utf8.acceptRanges", Rows.laid_unicode_utf8_acceptRanges), ("unicode/utf8.first", Rows.laid_unicode_utf8_first)]
theorem acceptData_eq : (Rows.laid_unicode_utf8_acceptRanges : DataW Unit) = acceptData := by kernel_rfl
theorem firstData_eq : Rows.laid_unicode_utf8_first = firstData := (show Rows.laid_unicode_utf8_first = Pinned.utf8First from rfl).trans Pinned.utf8First_eq
/-- The rows' list gives the tables. -/
theorem tabs_of_laid {W : World} (hL : laidMetH Tryd.prog laidL W) : Tabs W := by
  rw [MakeChecks.laidMetH_plain _ _ _ (by kernel_rfl)] at hL
  exact utf8Tabs_of_reads Tryd.lays260 xU8 (firstData_eq ▸ Lib.laidMet.reads hL (.tail _ (.head _))) (acceptData_eq ▸ Lib.laidMet.reads hL (.head _))
theorem laid_witness (os : Os) (args : Array Value) : laidMetH Tryd.prog laidL ((World.laidAll Tryd.prog os laidL).forCall (fun _ _ => 0) ⟨#[], args, []⟩).memory := by
  rw [MakeChecks.laidMetH_plain _ _ _ (by kernel_rfl)]
  exact laidMet_laidAll _ (by kernel_rfl) (by kernel_rfl)
end Go.Proofs.YtpamgedmgjfjjaaDoor.M
