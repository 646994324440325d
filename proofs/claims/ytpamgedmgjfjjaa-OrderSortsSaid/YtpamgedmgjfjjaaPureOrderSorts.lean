/-
OrderSorts: the document's example (the rest is the walk's own).
-/
import Derived.Test.YtpamgedmgjfjjaaPureOrderTwice
import Derived.Test.YtpamgedmgjfjjaaXSorts
namespace Go.Proofs.Ytpamgedmgjfjjaa.Pure
open Go.RowKit Go.Proofs.Ytpamgedmgjfjjaa.M Go.Proofs.YtpamgedmgjfjjaaW.PrintWords Go.Proofs.YtpamgedmgjfjjaaW.PrintLast Go.Proofs.YtpamgedmgjfjjaaW.PrintMore
/-- OrderSorts answers true for every list of keys. -/
theorem sorts (A0 : Option Addr) (c0 : Nat) (l : List ByteArray) (w : World) (hr0 : Kd.C Kd.string w A0 l.length l) (hc0 : l.length ≤ c0) :
    Calls Try.prog 6 #[.slice A0 l.length c0] w fun e w' => e = .returned (.bool true) ∧ Below w.heap.size w w' := sorts_all A0 c0 l w hr0 hc0 (Twice.awake6 10 (by decide))
end Go.Proofs.Ytpamgedmgjfjjaa.Pure
