/-
  DERIVED. GIVEN WITH THE SEED: THE CARDS: each row of YthijbipidbjpfaaGreatDoorRows.lean that lists a variable, with what it lists TIED to the program's text (the seventh form; the later family's looks); each row that meets fmt, with fmt's text TOLD by the authors' own Lean function (tested against real Go, not proved from fmt's source: count such statements apart). THE CARD IS WHAT COUNTS. Prove the row's statement (the work); the ties are given (YthijbipidbjpfaaGreatDoorTie.lean); close each card by the builder's one call (the guide's Derived/Test/ToyasCard.lean, 'card_holds'). Laid BY PROGRAM, IN A SANDBOX (cutbox-door.mjs). By AI agents, Wed Nov 11 2026. No macro, syntax, notation, axiom, sorry.
-/
import Derived.Test.YthijbipidbjpfaaGreatDoorRows
import GoSem.ClaimSeven
namespace Go.Proofs.YthijbipidbjpfaaGreatDoor
namespace Rows

/-- THE TIED CARD OF 'headgatelaw22.SwapWrites'. -/
def swapWritesCard : Claim7 := { stood := { row := swapWritesRow, standIns := [], harness := (true, "5afba6c63a1028518e0d91bac3ea3464cc1816d27a89606bfa6fd165eccbd36c"), looks := false }, kinds := [], alts := [], laidByText := true, laidKinds := [.data], laidTests := true, laidLooks := .later }
def SwapWritesCardSaid : Prop := Claim7.holds Tryz.pinned (.plain (OpenSpec.ofChange swapWritesSpec)) swapWritesCard

/-- THE TIED CARD OF 'headgatelaw22.SwapMakes'. -/
def swapMakesCard : Claim7 := { stood := { row := swapMakesRow, standIns := [], harness := (true, "5afba6c63a1028518e0d91bac3ea3464cc1816d27a89606bfa6fd165eccbd36c"), looks := false }, kinds := [], alts := [], laidByText := true, laidKinds := [.data], laidTests := true, laidLooks := .later }
def SwapMakesCardSaid : Prop := Claim7.holds Tryz.pinned (.plain (OpenSpec.ofChange swapMakesSpec)) swapMakesCard

/-- THE TIED CARD OF 'headgatelaw22.SwapCompletes'. -/
def swapCompletesCard : Claim7 := { stood := { row := swapCompletesRow, standIns := [], harness := (true, "5afba6c63a1028518e0d91bac3ea3464cc1816d27a89606bfa6fd165eccbd36c"), looks := false }, kinds := [], alts := [], laidByText := true, laidKinds := [.data], laidTests := true, laidLooks := .later }
def SwapCompletesCardSaid : Prop := Claim7.holds Tryz.pinned (.plain (OpenSpec.ofChange swapCompletesSpec)) swapCompletesCard

/-- THE TIED CARD OF 'headgatelaw22.SwapReads'. -/
def swapReadsCard : Claim7 := { stood := { row := swapReadsRow, standIns := [], harness := (true, "5afba6c63a1028518e0d91bac3ea3464cc1816d27a89606bfa6fd165eccbd36c"), looks := false }, kinds := [], alts := [], laidByText := true, laidKinds := [.data], laidTests := true, laidLooks := .later }
def SwapReadsCardSaid : Prop := Claim7.holds Tryz.pinned (.plain (OpenSpec.ofChange swapReadsSpec)) swapReadsCard

/-- THE TIED CARD OF 'headgatelaw22.SwapKnown'. -/
def swapKnownCard : Claim7 := { stood := { row := swapKnownRow, standIns := [], harness := (true, "5afba6c63a1028518e0d91bac3ea3464cc1816d27a89606bfa6fd165eccbd36c"), looks := false }, kinds := [], alts := [], laidByText := true, laidKinds := [.data], laidTests := true, laidLooks := .later }
def SwapKnownCardSaid : Prop := Claim7.holds Tryz.pinned (.plain (OpenSpec.ofChange swapKnownSpec)) swapKnownCard

/-- THE TIED CARD OF 'headgatelaw22.SwapValid'. -/
def swapValidCard : Claim7 := { stood := { row := swapValidRow, standIns := [], harness := (true, "5afba6c63a1028518e0d91bac3ea3464cc1816d27a89606bfa6fd165eccbd36c"), looks := false }, kinds := [], alts := [], laidByText := true, laidKinds := [.data], laidTests := true, laidLooks := .later }
def SwapValidCardSaid : Prop := Claim7.holds Tryz.pinned (.plain (OpenSpec.ofChange swapValidSpec)) swapValidCard

/-- THE TIED CARD OF 'headgatelaw22.SwapBack'. -/
def swapBackCard : Claim7 := { stood := { row := swapBackRow, standIns := [], harness := (true, "5afba6c63a1028518e0d91bac3ea3464cc1816d27a89606bfa6fd165eccbd36c"), looks := false }, kinds := [], alts := [], laidByText := true, laidKinds := [.data], laidTests := true, laidLooks := .later }
def SwapBackCardSaid : Prop := Claim7.holds Tryz.pinned (.plain (OpenSpec.ofChange swapBackSpec)) swapBackCard

/-- THE TIED CARD OF 'headgatelaw22.SwapClean'. -/
def swapCleanCard : Claim7 := { stood := { row := swapCleanRow, standIns := [], harness := (true, "5afba6c63a1028518e0d91bac3ea3464cc1816d27a89606bfa6fd165eccbd36c"), looks := false }, kinds := [], alts := [], laidByText := true, laidKinds := [.data], laidTests := true, laidLooks := .later }
def SwapCleanCardSaid : Prop := Claim7.holds Tryz.pinned (.plain (OpenSpec.ofChange swapCleanSpec)) swapCleanCard

/-- THE SECOND FORM's CARD OF 'headgatelaw22.SwapWrites'. -/
def swapWritesUptoCard : Claim7 := { stood := { row := swapWritesUptoRow, standIns := [], harness := (true, "5afba6c63a1028518e0d91bac3ea3464cc1816d27a89606bfa6fd165eccbd36c"), looks := false }, kinds := [], alts := [], laidByText := true, laidKinds := [.data], laidTests := true, laidLooks := .later }
def SwapWritesUptoCardSaid : Prop := Claim7.holds Tryz.pinned (.plain (OpenSpec.upto swapWritesSpec)) swapWritesUptoCard

/-- THE SECOND FORM's CARD OF 'headgatelaw22.SwapMakes'. -/
def swapMakesUptoCard : Claim7 := { stood := { row := swapMakesUptoRow, standIns := [], harness := (true, "5afba6c63a1028518e0d91bac3ea3464cc1816d27a89606bfa6fd165eccbd36c"), looks := false }, kinds := [], alts := [], laidByText := true, laidKinds := [.data], laidTests := true, laidLooks := .later }
def SwapMakesUptoCardSaid : Prop := Claim7.holds Tryz.pinned (.plain (OpenSpec.upto swapMakesSpec)) swapMakesUptoCard

/-- THE SECOND FORM's CARD OF 'headgatelaw22.SwapCompletes'. -/
def swapCompletesUptoCard : Claim7 := { stood := { row := swapCompletesUptoRow, standIns := [], harness := (true, "5afba6c63a1028518e0d91bac3ea3464cc1816d27a89606bfa6fd165eccbd36c"), looks := false }, kinds := [], alts := [], laidByText := true, laidKinds := [.data], laidTests := true, laidLooks := .later }
def SwapCompletesUptoCardSaid : Prop := Claim7.holds Tryz.pinned (.plain (OpenSpec.upto swapCompletesSpec)) swapCompletesUptoCard

/-- THE SECOND FORM's CARD OF 'headgatelaw22.SwapReads'. -/
def swapReadsUptoCard : Claim7 := { stood := { row := swapReadsUptoRow, standIns := [], harness := (true, "5afba6c63a1028518e0d91bac3ea3464cc1816d27a89606bfa6fd165eccbd36c"), looks := false }, kinds := [], alts := [], laidByText := true, laidKinds := [.data], laidTests := true, laidLooks := .later }
def SwapReadsUptoCardSaid : Prop := Claim7.holds Tryz.pinned (.plain (OpenSpec.upto swapReadsSpec)) swapReadsUptoCard

/-- THE SECOND FORM's CARD OF 'headgatelaw22.SwapKnown'. -/
def swapKnownUptoCard : Claim7 := { stood := { row := swapKnownUptoRow, standIns := [], harness := (true, "5afba6c63a1028518e0d91bac3ea3464cc1816d27a89606bfa6fd165eccbd36c"), looks := false }, kinds := [], alts := [], laidByText := true, laidKinds := [.data], laidTests := true, laidLooks := .later }
def SwapKnownUptoCardSaid : Prop := Claim7.holds Tryz.pinned (.plain (OpenSpec.upto swapKnownSpec)) swapKnownUptoCard

/-- THE SECOND FORM's CARD OF 'headgatelaw22.SwapValid'. -/
def swapValidUptoCard : Claim7 := { stood := { row := swapValidUptoRow, standIns := [], harness := (true, "5afba6c63a1028518e0d91bac3ea3464cc1816d27a89606bfa6fd165eccbd36c"), looks := false }, kinds := [], alts := [], laidByText := true, laidKinds := [.data], laidTests := true, laidLooks := .later }
def SwapValidUptoCardSaid : Prop := Claim7.holds Tryz.pinned (.plain (OpenSpec.upto swapValidSpec)) swapValidUptoCard

/-- THE SECOND FORM's CARD OF 'headgatelaw22.SwapBack'. -/
def swapBackUptoCard : Claim7 := { stood := { row := swapBackUptoRow, standIns := [], harness := (true, "5afba6c63a1028518e0d91bac3ea3464cc1816d27a89606bfa6fd165eccbd36c"), looks := false }, kinds := [], alts := [], laidByText := true, laidKinds := [.data], laidTests := true, laidLooks := .later }
def SwapBackUptoCardSaid : Prop := Claim7.holds Tryz.pinned (.plain (OpenSpec.upto swapBackSpec)) swapBackUptoCard

/-- THE SECOND FORM's CARD OF 'headgatelaw22.SwapClean'. -/
def swapCleanUptoCard : Claim7 := { stood := { row := swapCleanUptoRow, standIns := [], harness := (true, "5afba6c63a1028518e0d91bac3ea3464cc1816d27a89606bfa6fd165eccbd36c"), looks := false }, kinds := [], alts := [], laidByText := true, laidKinds := [.data], laidTests := true, laidLooks := .later }
def SwapCleanUptoCardSaid : Prop := Claim7.holds Tryz.pinned (.plain (OpenSpec.upto swapCleanSpec)) swapCleanUptoCard
end Rows
end Go.Proofs.YthijbipidbjpfaaGreatDoor
