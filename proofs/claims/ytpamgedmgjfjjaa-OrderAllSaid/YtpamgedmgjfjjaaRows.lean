/-
  NARROWER THAN 'FOR EVERY INPUT', by the rows' own cells (each row's printed sentence says how): OrderAll: loops.
  DERIVED. THE GIVEN ROWS OF THIS SEAT. 7 by the template 'for every input the law returns true; each argument reads behind the call as it read before'; 0 by the template 'total and deterministic' (their statements: YtpamgedmgjfjjaaTotals.lean).
  GIVEN WITH THE SEED: the statements are not yours to turn. If you find one false, say at which input.
  Laid BY PROGRAM, IN A SANDBOX (cutbox-rows.mjs): the forced cells as the released guide's own fill.sh prints them over the translation 16b3203d7daa3110… (all of the seat's roots in one cut). By AI agents, Wed Nov 11 2026. No macro, syntax, notation, axiom, sorry.
-/
import Derived.Test.YtpamgedmgjfjjaaChecked
import GoSem.Claim
import GoSem.ClaimJoined
import GoSem.ClaimMapViews
import Derived.JoinedTies
import Derived.KernelRfl
namespace Go.Proofs.Ytpamgedmgjfjjaa
/- THE CELL 'sum', in the pinned program and in every row, IS THE sha256 OF THE DUMP (.gsa) THAT YtpamgedmgjfjjaaProg.lean LOADS. Nothing in Lean hashes anything: it is a label: what it is worth is what the hold of that sum in a sandbox is worth. -/
noncomputable def Try.pinned : Pinned := { name := "ytpamgedmgjfjjaa", sum := "16b3203d7daa3110af6593b98d5ff15a798e242a37f2d07d14f324794d67de4d", checked := Try.checked }
namespace Rows
def none {H : Type} : Left H := { results := [], args := [] }

/-- 'erratumlaw09.CheadOrder': WHATEVER THE INPUT: true; the input reads as it did. -/
def cheadOrderSpec : ChangeSpec := { name := "cheadOrder", fn := fun _ => fun
  | [d1, d2, d3, d4, d5] => { results := [.lit (.bool true)], args := [d1, d2, d3, d4, d5] }
  | _ => none }
def cheadOrderRow : OpenClaim := { program := "ytpamgedmgjfjjaa", sum := "16b3203d7daa3110af6593b98d5ff15a798e242a37f2d07d14f324794d67de4d", func := "erratum/erratumlaw09.CheadOrder", spec := "cheadOrder", apart := false }
def CheadOrderSaid : Prop := cheadOrderRow.holds Try.pinned (OpenSpec.ofChange cheadOrderSpec)

/-- ITS FALSE NEIGHBOUR: 'it returns false'. Refute it at one input. -/
def cheadOrderWrong : ChangeSpec := { name := "cheadOrder", fn := fun _ => fun
  | [d1, d2, d3, d4, d5] => { results := [.lit (.bool false)], args := [d1, d2, d3, d4, d5] }
  | _ => none }
def CheadOrderWrongFalsely : Prop := cheadOrderRow.holds Try.pinned (OpenSpec.ofChange cheadOrderWrong)

/-- 'erratumlaw09.CheadAll': WHATEVER THE INPUT: true; the input reads as it did. -/
def cheadAllSpec : ChangeSpec := { name := "cheadAll", fn := fun _ => fun
  | [d1, d2, d3, d4] => { results := [.lit (.bool true)], args := [d1, d2, d3, d4] }
  | _ => none }
def cheadAllRow : OpenClaim := { program := "ytpamgedmgjfjjaa", sum := "16b3203d7daa3110af6593b98d5ff15a798e242a37f2d07d14f324794d67de4d", func := "erratum/erratumlaw09.CheadAll", spec := "cheadAll", apart := false }
def CheadAllSaid : Prop := cheadAllRow.holds Try.pinned (OpenSpec.ofChange cheadAllSpec)

/-- ITS FALSE NEIGHBOUR: 'it returns false'. Refute it at one input. -/
def cheadAllWrong : ChangeSpec := { name := "cheadAll", fn := fun _ => fun
  | [d1, d2, d3, d4] => { results := [.lit (.bool false)], args := [d1, d2, d3, d4] }
  | _ => none }
def CheadAllWrongFalsely : Prop := cheadAllRow.holds Try.pinned (OpenSpec.ofChange cheadAllWrong)

/-- 'erratumlaw09.CheadBack': WHATEVER THE INPUT: true; the input reads as it did. -/
def cheadBackSpec : ChangeSpec := { name := "cheadBack", fn := fun _ => fun
  | [d1, d2, d3, d4] => { results := [.lit (.bool true)], args := [d1, d2, d3, d4] }
  | _ => none }
def cheadBackRow : OpenClaim := { program := "ytpamgedmgjfjjaa", sum := "16b3203d7daa3110af6593b98d5ff15a798e242a37f2d07d14f324794d67de4d", func := "erratum/erratumlaw09.CheadBack", spec := "cheadBack", apart := false }
def CheadBackSaid : Prop := cheadBackRow.holds Try.pinned (OpenSpec.ofChange cheadBackSpec)

/-- ITS FALSE NEIGHBOUR: 'it returns false'. Refute it at one input. -/
def cheadBackWrong : ChangeSpec := { name := "cheadBack", fn := fun _ => fun
  | [d1, d2, d3, d4] => { results := [.lit (.bool false)], args := [d1, d2, d3, d4] }
  | _ => none }
def CheadBackWrongFalsely : Prop := cheadBackRow.holds Try.pinned (OpenSpec.ofChange cheadBackWrong)

/-- 'erratumlaw06.OrderSorts': WHATEVER THE INPUT: true; the input reads as it did. -/
def orderSortsSpec : ChangeSpec := { name := "orderSorts", fn := fun _ => fun
  | [d] => { results := [.lit (.bool true)], args := [d] }
  | _ => none }
def orderSortsRow : OpenClaim := { program := "ytpamgedmgjfjjaa", sum := "16b3203d7daa3110af6593b98d5ff15a798e242a37f2d07d14f324794d67de4d", func := "erratum/erratumlaw06.OrderSorts", spec := "orderSorts", inPlace := ["internal/bytealg.abigen_runtime_cmpstring"], unfollowed := true, recurses := true, apart := false }
def OrderSortsSaid : Prop := orderSortsRow.holds Try.pinned (OpenSpec.ofChange orderSortsSpec)

/-- ITS FALSE NEIGHBOUR: 'it returns false'. Refute it at one input. -/
def orderSortsWrong : ChangeSpec := { name := "orderSorts", fn := fun _ => fun
  | [d] => { results := [.lit (.bool false)], args := [d] }
  | _ => none }
def OrderSortsWrongFalsely : Prop := orderSortsRow.holds Try.pinned (OpenSpec.ofChange orderSortsWrong)

/-- 'erratumlaw06.OrderTwice': WHATEVER THE INPUT: true; the input reads as it did. -/
def orderTwiceSpec : ChangeSpec := { name := "orderTwice", fn := fun _ => fun
  | [d1, d2, d3] => { results := [.lit (.bool true)], args := [d1, d2, d3] }
  | _ => none }
def orderTwiceRow : OpenClaim := { program := "ytpamgedmgjfjjaa", sum := "16b3203d7daa3110af6593b98d5ff15a798e242a37f2d07d14f324794d67de4d", func := "erratum/erratumlaw06.OrderTwice", spec := "orderTwice", inPlace := ["internal/bytealg.abigen_runtime_cmpstring"], unfollowed := true, recurses := true, apart := false }
def OrderTwiceSaid : Prop := orderTwiceRow.holds Try.pinned (OpenSpec.ofChange orderTwiceSpec)

/-- ITS FALSE NEIGHBOUR: 'it returns false'. Refute it at one input. -/
def orderTwiceWrong : ChangeSpec := { name := "orderTwice", fn := fun _ => fun
  | [d1, d2, d3] => { results := [.lit (.bool false)], args := [d1, d2, d3] }
  | _ => none }
def OrderTwiceWrongFalsely : Prop := orderTwiceRow.holds Try.pinned (OpenSpec.ofChange orderTwiceWrong)

/-- 'erratumlaw06.OrderAll': WHATEVER THE INPUT: true; the input reads as it did. -/
def orderAllSpec : ChangeSpec := { name := "orderAll", fn := fun _ => fun
  | [d1, d2, d3, d4] => { results := [.lit (.bool true)], args := [d1, d2, d3, d4] }
  | _ => none }
def orderAllRow : OpenClaim := { program := "ytpamgedmgjfjjaa", sum := "16b3203d7daa3110af6593b98d5ff15a798e242a37f2d07d14f324794d67de4d", func := "erratum/erratumlaw06.OrderAll", spec := "orderAll", inPlace := ["internal/bytealg.abigen_runtime_cmpstring"], unfollowed := true, recurses := true, loops := true, apart := false }
def OrderAllSaid : Prop := orderAllRow.holds Try.pinned (OpenSpec.ofChange orderAllSpec)

/-- ITS FALSE NEIGHBOUR: 'it returns false'. Refute it at one input. -/
def orderAllWrong : ChangeSpec := { name := "orderAll", fn := fun _ => fun
  | [d1, d2, d3, d4] => { results := [.lit (.bool false)], args := [d1, d2, d3, d4] }
  | _ => none }
def OrderAllWrongFalsely : Prop := orderAllRow.holds Try.pinned (OpenSpec.ofChange orderAllWrong)

/-- 'erratumlaw06.OrderObjects': WHATEVER THE INPUT: true; the input reads as it did. -/
def orderObjectsSpec : ChangeSpec := { name := "orderObjects", fn := fun _ => fun
  | [d1, d2] => { results := [.lit (.bool true)], args := [d1, d2] }
  | _ => none }
def orderObjectsRow : OpenClaim := { program := "ytpamgedmgjfjjaa", sum := "16b3203d7daa3110af6593b98d5ff15a798e242a37f2d07d14f324794d67de4d", func := "erratum/erratumlaw06.OrderObjects", spec := "orderObjects", inPlace := ["internal/bytealg.abigen_runtime_cmpstring"], unfollowed := true, recurses := true, apart := false }
def OrderObjectsSaid : Prop := orderObjectsRow.holds Try.pinned (OpenSpec.ofChange orderObjectsSpec)

/-- ITS FALSE NEIGHBOUR: 'it returns false'. Refute it at one input. -/
def orderObjectsWrong : ChangeSpec := { name := "orderObjects", fn := fun _ => fun
  | [d1, d2] => { results := [.lit (.bool false)], args := [d1, d2] }
  | _ => none }
def OrderObjectsWrongFalsely : Prop := orderObjectsRow.holds Try.pinned (OpenSpec.ofChange orderObjectsWrong)

/- THE SECOND FORM. 'bulk': how many values and letters a reading holds, each counted each time it is reached (what is shared counts as often as it is met; a slice's spare places count too). A statement '..UptoSaid' is the law's where the arguments, and the package variables that the reading takes, are together of bulk at most 1048576: NARROWER than '..Said'. Prove '..Said' where nothing that the law and all that it calls make is longer than what came in: it says more and counts as full. Else prove '..UptoSaid'. A law counts once. -/
mutual
def uptoBulk {H : Type} : DataW H → Nat
  | .lit (.string bytes) => bytes.length + 1
  | .lit _ => 1
  | .nil => 1
  | .ptr d => uptoBulk d + 1
  | .slice elems spare => uptoBulkAll elems + uptoBulkAll spare + 1
  | .agg parts => uptoBulkAll parts + 1
  | .iface _ d => uptoBulk d + 1
  | .map entries => uptoBulkEntries entries + 1
  | .held _ => 1
def uptoBulkAll {H : Type} : List (DataW H) → Nat
  | [] => 0
  | d :: r => uptoBulk d + uptoBulkAll r
def uptoBulkEntries {H : Type} : List (Lit × DataW H) → Nat
  | [] => 0
  | x :: r => uptoBulkEntry x + uptoBulkEntries r
def uptoBulkEntry {H : Type} : Lit × DataW H → Nat
  | (.string bytes, d) => bytes.length + uptoBulk d + 1
  | (_, d) => uptoBulk d + 1
 end
def uptoSmall : (H : Type) → List (DataW H) → Bool := fun _ ds => decide (uptoBulkAll ds ≤ 1048576)
def OpenSpec.upto (s : _root_.Go.ChangeSpec) : _root_.Go.OpenSpec := { _root_.Go.OpenSpec.ofChange s with cond := some uptoSmall }

/-- 'erratumlaw09.CheadOrder', WHERE WHAT IT READS IS OF BULK AT MOST 1048576: true; the input reads as it did. -/
def cheadOrderUptoRow : OpenClaim := { program := "ytpamgedmgjfjjaa", sum := "16b3203d7daa3110af6593b98d5ff15a798e242a37f2d07d14f324794d67de4d", func := "erratum/erratumlaw09.CheadOrder", spec := "cheadOrder", apart := false, narrowed := true }
def CheadOrderUptoSaid : Prop := cheadOrderUptoRow.holds Try.pinned (OpenSpec.upto cheadOrderSpec)

/-- 'erratumlaw09.CheadAll', WHERE WHAT IT READS IS OF BULK AT MOST 1048576: true; the input reads as it did. -/
def cheadAllUptoRow : OpenClaim := { program := "ytpamgedmgjfjjaa", sum := "16b3203d7daa3110af6593b98d5ff15a798e242a37f2d07d14f324794d67de4d", func := "erratum/erratumlaw09.CheadAll", spec := "cheadAll", apart := false, narrowed := true }
def CheadAllUptoSaid : Prop := cheadAllUptoRow.holds Try.pinned (OpenSpec.upto cheadAllSpec)

/-- 'erratumlaw09.CheadBack', WHERE WHAT IT READS IS OF BULK AT MOST 1048576: true; the input reads as it did. -/
def cheadBackUptoRow : OpenClaim := { program := "ytpamgedmgjfjjaa", sum := "16b3203d7daa3110af6593b98d5ff15a798e242a37f2d07d14f324794d67de4d", func := "erratum/erratumlaw09.CheadBack", spec := "cheadBack", apart := false, narrowed := true }
def CheadBackUptoSaid : Prop := cheadBackUptoRow.holds Try.pinned (OpenSpec.upto cheadBackSpec)

/-- 'erratumlaw06.OrderSorts', WHERE WHAT IT READS IS OF BULK AT MOST 1048576: true; the input reads as it did. -/
def orderSortsUptoRow : OpenClaim := { program := "ytpamgedmgjfjjaa", sum := "16b3203d7daa3110af6593b98d5ff15a798e242a37f2d07d14f324794d67de4d", func := "erratum/erratumlaw06.OrderSorts", spec := "orderSorts", inPlace := ["internal/bytealg.abigen_runtime_cmpstring"], unfollowed := true, recurses := true, apart := false, narrowed := true }
def OrderSortsUptoSaid : Prop := orderSortsUptoRow.holds Try.pinned (OpenSpec.upto orderSortsSpec)

/-- 'erratumlaw06.OrderTwice', WHERE WHAT IT READS IS OF BULK AT MOST 1048576: true; the input reads as it did. -/
def orderTwiceUptoRow : OpenClaim := { program := "ytpamgedmgjfjjaa", sum := "16b3203d7daa3110af6593b98d5ff15a798e242a37f2d07d14f324794d67de4d", func := "erratum/erratumlaw06.OrderTwice", spec := "orderTwice", inPlace := ["internal/bytealg.abigen_runtime_cmpstring"], unfollowed := true, recurses := true, apart := false, narrowed := true }
def OrderTwiceUptoSaid : Prop := orderTwiceUptoRow.holds Try.pinned (OpenSpec.upto orderTwiceSpec)

/-- 'erratumlaw06.OrderAll', WHERE WHAT IT READS IS OF BULK AT MOST 1048576: true; the input reads as it did. -/
def orderAllUptoRow : OpenClaim := { program := "ytpamgedmgjfjjaa", sum := "16b3203d7daa3110af6593b98d5ff15a798e242a37f2d07d14f324794d67de4d", func := "erratum/erratumlaw06.OrderAll", spec := "orderAll", inPlace := ["internal/bytealg.abigen_runtime_cmpstring"], unfollowed := true, recurses := true, loops := true, apart := false, narrowed := true }
def OrderAllUptoSaid : Prop := orderAllUptoRow.holds Try.pinned (OpenSpec.upto orderAllSpec)

/-- 'erratumlaw06.OrderObjects', WHERE WHAT IT READS IS OF BULK AT MOST 1048576: true; the input reads as it did. -/
def orderObjectsUptoRow : OpenClaim := { program := "ytpamgedmgjfjjaa", sum := "16b3203d7daa3110af6593b98d5ff15a798e242a37f2d07d14f324794d67de4d", func := "erratum/erratumlaw06.OrderObjects", spec := "orderObjects", inPlace := ["internal/bytealg.abigen_runtime_cmpstring"], unfollowed := true, recurses := true, apart := false, narrowed := true }
def OrderObjectsUptoSaid : Prop := orderObjectsUptoRow.holds Try.pinned (OpenSpec.upto orderObjectsSpec)

end Rows
end Go.Proofs.Ytpamgedmgjfjjaa
