/-
  DERIVED. GIVEN WITH THE SEED: THE CARDS: each row of YtpamgedmgjfjjaaDoorRows.lean that lists a variable, with what it lists TIED to the program's text (the seventh form; the later family's looks); each row that meets fmt, with fmt's text TOLD by the authors' own Lean function (tested against real Go, not proved from fmt's source: count such statements apart). THE CARD IS WHAT COUNTS. Prove the row's statement (the work); the ties are given (YtpamgedmgjfjjaaDoorTie.lean); close each card by the builder's one call (the guide's Derived/Test/ToyasCard.lean, 'card_holds'). Laid BY PROGRAM, IN A SANDBOX (cutbox-door.mjs). By AI agents, Wed Nov 11 2026. No macro, syntax, notation, axiom, sorry.
-/
import Derived.Test.YtpamgedmgjfjjaaDoorRows
import GoSem.ClaimSeven
namespace Go.Proofs.YtpamgedmgjfjjaaDoor
namespace Rows

/-- THE TIED CARD OF 'erratumlaw04.UtfParts'. -/
def utfPartsCard : Claim7 := { stood := { row := utfPartsRow, standIns := [], harness := (true, "a6c9bfbda99c93baa7b694e607beb9fbd897c89f59b9cf2cb129bfcc4a2954b4"), looks := true }, kinds := [], alts := [], laidByText := true, laidKinds := [.data, .pinned], laidTests := true, laidLooks := .later }
def UtfPartsCardSaid : Prop := Claim7.holds Tryd.pinned (.plain (OpenSpec.ofChange utfPartsSpec)) utfPartsCard

/-- THE TIED CARD OF 'erratumlaw25.FrameSizes'. -/
def frameSizesCard : Claim7 := { stood := { row := frameSizesRow, standIns := [], harness := (true, "a6c9bfbda99c93baa7b694e607beb9fbd897c89f59b9cf2cb129bfcc4a2954b4"), looks := true }, kinds := [], alts := [], laidByText := true, laidKinds := [.data, .pinned], laidTests := true, laidLooks := .later }
def FrameSizesCardSaid : Prop := Claim7.holds Tryd.pinned (.plain (OpenSpec.ofChange frameSizesSpec)) frameSizesCard

/-- THE TIED CARD OF 'erratumlaw04.UtfRunes'. -/
def utfRunesCard : Claim7 := { stood := { row := utfRunesRow, standIns := [], harness := (true, "a6c9bfbda99c93baa7b694e607beb9fbd897c89f59b9cf2cb129bfcc4a2954b4"), looks := true }, kinds := [], alts := [], laidByText := true, laidKinds := [.data, .pinned], laidTests := true, laidLooks := .later }
def UtfRunesCardSaid : Prop := Claim7.holds Tryd.pinned (.plain (OpenSpec.ofChange utfRunesSpec)) utfRunesCard

/-- THE TIED CARD OF 'erratumlaw04.UtfAll'. -/
def utfAllCard : Claim7 := { stood := { row := utfAllRow, standIns := [], harness := (true, "a6c9bfbda99c93baa7b694e607beb9fbd897c89f59b9cf2cb129bfcc4a2954b4"), looks := true }, kinds := [], alts := [], laidByText := true, laidKinds := [.data, .pinned], laidTests := true, laidLooks := .later }
def UtfAllCardSaid : Prop := Claim7.holds Tryd.pinned (.plain (OpenSpec.ofChange utfAllSpec)) utfAllCard

/-- THE TIED CARD OF 'erratumlaw04.UtfBack'. -/
def utfBackCard : Claim7 := { stood := { row := utfBackRow, standIns := [], harness := (true, "a6c9bfbda99c93baa7b694e607beb9fbd897c89f59b9cf2cb129bfcc4a2954b4"), looks := true }, kinds := [], alts := [], laidByText := true, laidKinds := [.data, .pinned], laidTests := true, laidLooks := .later }
def UtfBackCardSaid : Prop := Claim7.holds Tryd.pinned (.plain (OpenSpec.ofChange utfBackSpec)) utfBackCard

/-- THE TIED CARD OF 'erratumlaw25.FrameFields'. -/
def frameFieldsCard : Claim7 := { stood := { row := frameFieldsRow, standIns := [], harness := (true, "a6c9bfbda99c93baa7b694e607beb9fbd897c89f59b9cf2cb129bfcc4a2954b4"), looks := true }, kinds := [], alts := [], laidByText := true, laidKinds := [.data, .pinned], laidTests := true, laidLooks := .later }
def FrameFieldsCardSaid : Prop := Claim7.holds Tryd.pinned (.plain (OpenSpec.ofChange frameFieldsSpec)) frameFieldsCard

/-- THE TIED CARD OF 'erratumlaw25.FrameAll'. -/
def frameAllCard : Claim7 := { stood := { row := frameAllRow, standIns := [], harness := (true, "a6c9bfbda99c93baa7b694e607beb9fbd897c89f59b9cf2cb129bfcc4a2954b4"), looks := true }, kinds := [], alts := [], laidByText := true, laidKinds := [.data, .pinned], laidTests := true, laidLooks := .later }
def FrameAllCardSaid : Prop := Claim7.holds Tryd.pinned (.plain (OpenSpec.ofChange frameAllSpec)) frameAllCard

/-- THE TIED CARD OF 'erratumlaw25.FrameBack'. -/
def frameBackCard : Claim7 := { stood := { row := frameBackRow, standIns := [], harness := (true, "a6c9bfbda99c93baa7b694e607beb9fbd897c89f59b9cf2cb129bfcc4a2954b4"), looks := true }, kinds := [], alts := [], laidByText := true, laidKinds := [.data, .pinned], laidTests := true, laidLooks := .later }
def FrameBackCardSaid : Prop := Claim7.holds Tryd.pinned (.plain (OpenSpec.ofChange frameBackSpec)) frameBackCard

/-- THE TIED CARD OF 'erratumlaw07.JstrAll'. -/
def jstrAllCard : Claim7 := { stood := { row := jstrAllRow, standIns := [], harness := (true, "a6c9bfbda99c93baa7b694e607beb9fbd897c89f59b9cf2cb129bfcc4a2954b4"), looks := true }, kinds := [], alts := [], laidByText := true, laidKinds := [.data, .pinned], laidTests := true, laidLooks := .later }
def JstrAllCardSaid : Prop := Claim7.holds Tryd.pinned (.plain (OpenSpec.ofChange jstrAllSpec)) jstrAllCard

/-- THE TIED CARD OF 'erratumlaw07.JstrBack'. -/
def jstrBackCard : Claim7 := { stood := { row := jstrBackRow, standIns := [], harness := (true, "a6c9bfbda99c93baa7b694e607beb9fbd897c89f59b9cf2cb129bfcc4a2954b4"), looks := true }, kinds := [], alts := [], laidByText := true, laidKinds := [.data, .pinned], laidTests := true, laidLooks := .later }
def JstrBackCardSaid : Prop := Claim7.holds Tryd.pinned (.plain (OpenSpec.ofChange jstrBackSpec)) jstrBackCard

/-- THE TIED CARD OF 'erratumlaw07.JstrRunes'. -/
def jstrRunesCard : Claim7 := { stood := { row := jstrRunesRow, standIns := [], harness := (true, "a6c9bfbda99c93baa7b694e607beb9fbd897c89f59b9cf2cb129bfcc4a2954b4"), looks := true }, kinds := [], alts := [], laidByText := true, laidKinds := [.data, .pinned], laidTests := true, laidLooks := .later }
def JstrRunesCardSaid : Prop := Claim7.holds Tryd.pinned (.plain (OpenSpec.ofChange jstrRunesSpec)) jstrRunesCard

/-- THE SECOND FORM's CARD OF 'erratumlaw04.UtfParts'. -/
def utfPartsUptoCard : Claim7 := { stood := { row := utfPartsUptoRow, standIns := [], harness := (true, "a6c9bfbda99c93baa7b694e607beb9fbd897c89f59b9cf2cb129bfcc4a2954b4"), looks := true }, kinds := [], alts := [], laidByText := true, laidKinds := [.data, .pinned], laidTests := true, laidLooks := .later }
def UtfPartsUptoCardSaid : Prop := Claim7.holds Tryd.pinned (.plain (OpenSpec.upto utfPartsSpec)) utfPartsUptoCard

/-- THE SECOND FORM's CARD OF 'erratumlaw25.FrameSizes'. -/
def frameSizesUptoCard : Claim7 := { stood := { row := frameSizesUptoRow, standIns := [], harness := (true, "a6c9bfbda99c93baa7b694e607beb9fbd897c89f59b9cf2cb129bfcc4a2954b4"), looks := true }, kinds := [], alts := [], laidByText := true, laidKinds := [.data, .pinned], laidTests := true, laidLooks := .later }
def FrameSizesUptoCardSaid : Prop := Claim7.holds Tryd.pinned (.plain (OpenSpec.upto frameSizesSpec)) frameSizesUptoCard

/-- THE SECOND FORM's CARD OF 'erratumlaw04.UtfRunes'. -/
def utfRunesUptoCard : Claim7 := { stood := { row := utfRunesUptoRow, standIns := [], harness := (true, "a6c9bfbda99c93baa7b694e607beb9fbd897c89f59b9cf2cb129bfcc4a2954b4"), looks := true }, kinds := [], alts := [], laidByText := true, laidKinds := [.data, .pinned], laidTests := true, laidLooks := .later }
def UtfRunesUptoCardSaid : Prop := Claim7.holds Tryd.pinned (.plain (OpenSpec.upto utfRunesSpec)) utfRunesUptoCard

/-- THE SECOND FORM's CARD OF 'erratumlaw04.UtfAll'. -/
def utfAllUptoCard : Claim7 := { stood := { row := utfAllUptoRow, standIns := [], harness := (true, "a6c9bfbda99c93baa7b694e607beb9fbd897c89f59b9cf2cb129bfcc4a2954b4"), looks := true }, kinds := [], alts := [], laidByText := true, laidKinds := [.data, .pinned], laidTests := true, laidLooks := .later }
def UtfAllUptoCardSaid : Prop := Claim7.holds Tryd.pinned (.plain (OpenSpec.upto utfAllSpec)) utfAllUptoCard

/-- THE SECOND FORM's CARD OF 'erratumlaw04.UtfBack'. -/
def utfBackUptoCard : Claim7 := { stood := { row := utfBackUptoRow, standIns := [], harness := (true, "a6c9bfbda99c93baa7b694e607beb9fbd897c89f59b9cf2cb129bfcc4a2954b4"), looks := true }, kinds := [], alts := [], laidByText := true, laidKinds := [.data, .pinned], laidTests := true, laidLooks := .later }
def UtfBackUptoCardSaid : Prop := Claim7.holds Tryd.pinned (.plain (OpenSpec.upto utfBackSpec)) utfBackUptoCard

/-- THE SECOND FORM's CARD OF 'erratumlaw25.FrameFields'. -/
def frameFieldsUptoCard : Claim7 := { stood := { row := frameFieldsUptoRow, standIns := [], harness := (true, "a6c9bfbda99c93baa7b694e607beb9fbd897c89f59b9cf2cb129bfcc4a2954b4"), looks := true }, kinds := [], alts := [], laidByText := true, laidKinds := [.data, .pinned], laidTests := true, laidLooks := .later }
def FrameFieldsUptoCardSaid : Prop := Claim7.holds Tryd.pinned (.plain (OpenSpec.upto frameFieldsSpec)) frameFieldsUptoCard

/-- THE SECOND FORM's CARD OF 'erratumlaw25.FrameAll'. -/
def frameAllUptoCard : Claim7 := { stood := { row := frameAllUptoRow, standIns := [], harness := (true, "a6c9bfbda99c93baa7b694e607beb9fbd897c89f59b9cf2cb129bfcc4a2954b4"), looks := true }, kinds := [], alts := [], laidByText := true, laidKinds := [.data, .pinned], laidTests := true, laidLooks := .later }
def FrameAllUptoCardSaid : Prop := Claim7.holds Tryd.pinned (.plain (OpenSpec.upto frameAllSpec)) frameAllUptoCard

/-- THE SECOND FORM's CARD OF 'erratumlaw25.FrameBack'. -/
def frameBackUptoCard : Claim7 := { stood := { row := frameBackUptoRow, standIns := [], harness := (true, "a6c9bfbda99c93baa7b694e607beb9fbd897c89f59b9cf2cb129bfcc4a2954b4"), looks := true }, kinds := [], alts := [], laidByText := true, laidKinds := [.data, .pinned], laidTests := true, laidLooks := .later }
def FrameBackUptoCardSaid : Prop := Claim7.holds Tryd.pinned (.plain (OpenSpec.upto frameBackSpec)) frameBackUptoCard

/-- THE SECOND FORM's CARD OF 'erratumlaw07.JstrAll'. -/
def jstrAllUptoCard : Claim7 := { stood := { row := jstrAllUptoRow, standIns := [], harness := (true, "a6c9bfbda99c93baa7b694e607beb9fbd897c89f59b9cf2cb129bfcc4a2954b4"), looks := true }, kinds := [], alts := [], laidByText := true, laidKinds := [.data, .pinned], laidTests := true, laidLooks := .later }
def JstrAllUptoCardSaid : Prop := Claim7.holds Tryd.pinned (.plain (OpenSpec.upto jstrAllSpec)) jstrAllUptoCard

/-- THE SECOND FORM's CARD OF 'erratumlaw07.JstrBack'. -/
def jstrBackUptoCard : Claim7 := { stood := { row := jstrBackUptoRow, standIns := [], harness := (true, "a6c9bfbda99c93baa7b694e607beb9fbd897c89f59b9cf2cb129bfcc4a2954b4"), looks := true }, kinds := [], alts := [], laidByText := true, laidKinds := [.data, .pinned], laidTests := true, laidLooks := .later }
def JstrBackUptoCardSaid : Prop := Claim7.holds Tryd.pinned (.plain (OpenSpec.upto jstrBackSpec)) jstrBackUptoCard

/-- THE SECOND FORM's CARD OF 'erratumlaw07.JstrRunes'. -/
def jstrRunesUptoCard : Claim7 := { stood := { row := jstrRunesUptoRow, standIns := [], harness := (true, "a6c9bfbda99c93baa7b694e607beb9fbd897c89f59b9cf2cb129bfcc4a2954b4"), looks := true }, kinds := [], alts := [], laidByText := true, laidKinds := [.data, .pinned], laidTests := true, laidLooks := .later }
def JstrRunesUptoCardSaid : Prop := Claim7.holds Tryd.pinned (.plain (OpenSpec.upto jstrRunesSpec)) jstrRunesUptoCard
end Rows
end Go.Proofs.YtpamgedmgjfjjaaDoor
