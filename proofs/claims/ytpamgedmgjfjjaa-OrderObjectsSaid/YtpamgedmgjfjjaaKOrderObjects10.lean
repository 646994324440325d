/-
Lemmas for OrderObjects, for every input they speak of: XNumSame.
-/
import Derived.Test.YtpamgedmgjfjjaaKOrderObjects03
namespace Go.Proofs.Ytpamgedmgjfjjaa.M
open Go.RowKit Go.Proofs.YtpamgedmgjfjjaaW.PrintWords Go.Proofs.YtpamgedmgjfjjaaW.PrintLast Go.Proofs.YtpamgedmgjfjjaaW.PrintMore
set_option linter.unusedVariables false
def erratumref02_Same.f (k : Nat) (a0_0 : Bool) (l0_1 : List Int) (a0_2 : Int) (a1_0 : Bool) (l1_1 : List Int) (a1_2 : Int) : Option Bool := none
theorem erratumref02_Same.mono : ∀ a0 a1 a2 a3 a4 a5 k, LeO (erratumref02_Same.f k a0 a1 a2 a3 a4 a5) (erratumref02_Same.f (k + 1) a0 a1 a2 a3 a4 a5) := fun _ _ _ _ _ _ _ => LeO.none _
theorem erratumref02_Same.calls (k : Nat) (a0_0 : Bool) (A0_1 : Option Addr) (c0_1 : Nat) (l0_1 : List Int) (a0_2 : Int) (a1_0 : Bool) (A1_1 : Option Addr) (c1_1 : Nat) (l1_1 : List Int) (a1_2 : Int) (r : Bool) (w : World) (hr0_1 : Kd.C (Kd.int .u32) w A0_1 l0_1.length l0_1) (hc0_1 : l0_1.length ≤ c0_1) (hr1_1 : Kd.C (Kd.int .u32) w A1_1 l1_1.length l1_1) (hc1_1 : l1_1.length ≤ c1_1) (h : erratumref02_Same.f k a0_0 l0_1 a0_2 a1_0 l1_1 a1_2 = some r) :
    Calls Try.prog 46 #[.agg #[.bool a0_0, .slice A0_1 l0_1.length c0_1, .int .i64 a0_2], .agg #[.bool a1_0, .slice A1_1 l1_1.length c1_1, .int .i64 a1_2]] w fun e w' => e = .returned (.bool r) ∧ Below w.heap.size w w' := by
  unfold erratumref02_Same.f at h
  cases h
end Go.Proofs.Ytpamgedmgjfjjaa.M
