-- Written by wip/xprint.py (the kit's print with our externs). Lean checks it.
import Derived.Test.YtpamgedmgjfjjaaDoorProg
import Derived.Below
import Derived.Deep.Draws
import Derived.Deep.AppendLies
import Derived.Maps.AppendAt
import Derived.OwnWalk
import Derived.Laws.BytesArg
import Derived.Laws.MakeOwn
import Derived.Laws.OwnMore
import Derived.Deep.OwnRows
import Derived.Tactics
import Derived.Lib.ConvBytes
import Derived.Laws.Slices
import Derived.WalkKit
import Derived.KernelRfl
import Derived.RowKit3
import Derived.Deep.LoopGhost
import Derived.Deep.QuietTactic
import Derived.BigQuiet
import Derived.WideLaws
import Derived.Deep.DeepCutAuto
import Derived.Deep.CutBlock
import Derived.Deep.RegionHeld3
import Derived.Laws.Rows
import Derived.Lib.AppendStr
import Derived.ArgAppend
import Derived.Laws.IdiomCopy
import Derived.OrdersHeld
import Derived.Laws.BitsLemmas
import Derived.RowKit
import Derived.Test.YtpamgedmgjfjjaaDoorWWords
import Derived.Test.YtpamgedmgjfjjaaDoorWLast
import Derived.Test.YtpamgedmgjfjjaaDoorWTab
import Derived.Test.YtpamgedmgjfjjaaDoorWFour
import Derived.Test.YtpamgedmgjfjjaaDoorWQPut
import Derived.Test.YtpamgedmgjfjjaaDoorWApart
import Derived.Test.YtpamgedmgjfjjaaDoorWArr
import Derived.Test.YtpamgedmgjfjjaaDoorWZeros
import Derived.Test.YtpamgedmgjfjjaaDoorWFoot
import Derived.Test.YtpamgedmgjfjjaaDoorWKept
import Derived.Test.YtpamgedmgjfjjaaDoorWShare
import Derived.Test.YtpamgedmgjfjjaaDoorWN
import Derived.Test.YtpamgedmgjfjjaaDoorWFootNe
import Derived.Test.YtpamgedmgjfjjaaDoorWAt
import Derived.Test.YtpamgedmgjfjjaaDoorWEqStruct
import Derived.Test.YtpamgedmgjfjjaaDoorWRepsOne
import Derived.Test.YtpamgedmgjfjjaaDoorWInv
import Derived.Test.YtpamgedmgjfjjaaDoorWInvWords
import Derived.Test.YtpamgedmgjfjjaaDoorWGuard
import Derived.Test.YtpamgedmgjfjjaaDoorWNEv
import Derived.Test.YtpamgedmgjfjjaaDoorWMore
namespace Go.Proofs.YtpamgedmgjfjjaaDoor.M
open Go.RowKit Go.Proofs.YtpamgedmgjfjjaaDoorW.PrintWords Go.Proofs.YtpamgedmgjfjjaaDoorW.PrintLast Go.Proofs.YtpamgedmgjfjjaaDoorW.PrintMore
attribute [local go_sem] max2_int min2_int max_two min_two max_three min_three max_four min_four   -- for this text's walks alone
set_option linter.unusedVariables false
set_option linter.unusedSimpArgs false



def errW : Option Int → Value
  | none => .nilIface
  | some c => .iface 0 (.int .i64 c)
theorem errW_none : errW none = .nilIface := rfl
theorem errW_some (c : Int) : errW (some c) = .iface 0 (.int .i64 c) := rfl

theorem info5 : (Tryd.prog.info? 5).map (fun i => (i.zero, i.size, i.bytes)) = some (some (.int .u8 0), 1, 1) := by kernel_rfl
theorem info21 : (Tryd.prog.info? 21).map (fun i => (i.zero, i.size, i.bytes)) = some (some (.int .i32 0), 1, 4) := by kernel_rfl
theorem x_shl_nonneg (k : IntKind) (hk : k.signed = false) (x y : Int) : 0 ≤ shl k x y := by
  unfold shl IntKind.wrap
  simp only [hk, Bool.false_and, Bool.false_eq_true, if_false]
  exact Int.emod_nonneg _ (Int.ne_of_gt (Int.pow_pos (by decide)))

-- the values' own types

end Go.Proofs.YtpamgedmgjfjjaaDoor.M
