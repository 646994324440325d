/-
CheadAll: any number behind any bytes, and any bytes from anywhere, are as the document's answer has them. For every input.
-/
import Derived.Test.YtpamgedmgjfjjaaXAll
namespace Go.Proofs.Ytpamgedmgjfjjaa.Pure
open Go.Proofs.Ytpamgedmgjfjjaa.M
theorem CheadAll : erratumlaw09_CheadAll.Pure := trivial
end Go.Proofs.Ytpamgedmgjfjjaa.Pure
