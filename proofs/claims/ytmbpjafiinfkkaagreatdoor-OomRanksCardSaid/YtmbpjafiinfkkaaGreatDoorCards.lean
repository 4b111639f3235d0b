/-
  DERIVED. GIVEN WITH THE SEED: THE CARDS: each row of YtmbpjafiinfkkaaGreatDoorRows.lean that lists a variable, with what it lists TIED to the program's text (the seventh form; the later family's looks); each row that meets fmt, with fmt's text TOLD by the authors' own Lean function (tested against real Go, not proved from fmt's source: count such statements apart). THE CARD IS WHAT COUNTS. Prove the row's statement (the work); the ties are given (YtmbpjafiinfkkaaGreatDoorTie.lean); close each card by the builder's one call (the guide's Derived/Test/ToyasCard.lean, 'card_holds'). Laid BY PROGRAM, IN A SANDBOX (cutbox-door.mjs). By AI agents, Wed Nov 11 2026. No macro, syntax, notation, axiom, sorry.
-/
import Derived.Test.YtmbpjafiinfkkaaGreatDoorRows
import GoSem.ClaimSeven
namespace Go.Proofs.YtmbpjafiinfkkaaGreatDoor
namespace Rows

/-- THE TIED CARD OF 'headgatelaw34.OomVictims'. -/
def oomVictimsCard : Claim7 := { stood := { row := oomVictimsRow, standIns := [], harness := (true, "d01dd5e205be5157b9ef54fd363218ec2f729e9f55bbf63b4048868fb9e965fa"), looks := false }, kinds := [], alts := [], laidByText := true, laidKinds := [.data], laidTests := true, laidLooks := .later }
def OomVictimsCardSaid : Prop := Claim7.holds Tryz.pinned (.plain (OpenSpec.ofChange oomVictimsSpec)) oomVictimsCard

/-- THE TIED CARD OF 'headgatelaw34.OomAllows'. -/
def oomAllowsCard : Claim7 := { stood := { row := oomAllowsRow, standIns := [], harness := (true, "d01dd5e205be5157b9ef54fd363218ec2f729e9f55bbf63b4048868fb9e965fa"), looks := false }, kinds := [], alts := [], laidByText := true, laidKinds := [.data], laidTests := true, laidLooks := .later }
def OomAllowsCardSaid : Prop := Claim7.holds Tryz.pinned (.plain (OpenSpec.ofChange oomAllowsSpec)) oomAllowsCard

/-- THE TIED CARD OF 'headgatelaw34.OomKnown'. -/
def oomKnownCard : Claim7 := { stood := { row := oomKnownRow, standIns := [], harness := (true, "d01dd5e205be5157b9ef54fd363218ec2f729e9f55bbf63b4048868fb9e965fa"), looks := false }, kinds := [], alts := [], laidByText := true, laidKinds := [.data], laidTests := true, laidLooks := .later }
def OomKnownCardSaid : Prop := Claim7.holds Tryz.pinned (.plain (OpenSpec.ofChange oomKnownSpec)) oomKnownCard

/-- THE TIED CARD OF 'headgatelaw34.OomRanks'. -/
def oomRanksCard : Claim7 := { stood := { row := oomRanksRow, standIns := [], harness := (true, "d01dd5e205be5157b9ef54fd363218ec2f729e9f55bbf63b4048868fb9e965fa"), looks := false }, kinds := [], alts := [], laidByText := true, laidKinds := [.data], laidTests := true, laidLooks := .later }
def OomRanksCardSaid : Prop := Claim7.holds Tryz.pinned (.plain (OpenSpec.ofChange oomRanksSpec)) oomRanksCard

/-- THE TIED CARD OF 'headgatelaw34.OomSums'. -/
def oomSumsCard : Claim7 := { stood := { row := oomSumsRow, standIns := [], harness := (true, "d01dd5e205be5157b9ef54fd363218ec2f729e9f55bbf63b4048868fb9e965fa"), looks := false }, kinds := [], alts := [], laidByText := true, laidKinds := [.data], laidTests := true, laidLooks := .later }
def OomSumsCardSaid : Prop := Claim7.holds Tryz.pinned (.plain (OpenSpec.ofChange oomSumsSpec)) oomSumsCard

/-- THE TIED CARD OF 'headgatelaw34.OomRare'. -/
def oomRareCard : Claim7 := { stood := { row := oomRareRow, standIns := [], harness := (true, "d01dd5e205be5157b9ef54fd363218ec2f729e9f55bbf63b4048868fb9e965fa"), looks := false }, kinds := [], alts := [], laidByText := true, laidKinds := [.data], laidTests := true, laidLooks := .later }
def OomRareCardSaid : Prop := Claim7.holds Tryz.pinned (.plain (OpenSpec.ofChange oomRareSpec)) oomRareCard

/-- THE SECOND FORM's CARD OF 'headgatelaw34.OomVictims'. -/
def oomVictimsUptoCard : Claim7 := { stood := { row := oomVictimsUptoRow, standIns := [], harness := (true, "d01dd5e205be5157b9ef54fd363218ec2f729e9f55bbf63b4048868fb9e965fa"), looks := false }, kinds := [], alts := [], laidByText := true, laidKinds := [.data], laidTests := true, laidLooks := .later }
def OomVictimsUptoCardSaid : Prop := Claim7.holds Tryz.pinned (.plain (OpenSpec.upto oomVictimsSpec)) oomVictimsUptoCard

/-- THE SECOND FORM's CARD OF 'headgatelaw34.OomAllows'. -/
def oomAllowsUptoCard : Claim7 := { stood := { row := oomAllowsUptoRow, standIns := [], harness := (true, "d01dd5e205be5157b9ef54fd363218ec2f729e9f55bbf63b4048868fb9e965fa"), looks := false }, kinds := [], alts := [], laidByText := true, laidKinds := [.data], laidTests := true, laidLooks := .later }
def OomAllowsUptoCardSaid : Prop := Claim7.holds Tryz.pinned (.plain (OpenSpec.upto oomAllowsSpec)) oomAllowsUptoCard

/-- THE SECOND FORM's CARD OF 'headgatelaw34.OomKnown'. -/
def oomKnownUptoCard : Claim7 := { stood := { row := oomKnownUptoRow, standIns := [], harness := (true, "d01dd5e205be5157b9ef54fd363218ec2f729e9f55bbf63b4048868fb9e965fa"), looks := false }, kinds := [], alts := [], laidByText := true, laidKinds := [.data], laidTests := true, laidLooks := .later }
def OomKnownUptoCardSaid : Prop := Claim7.holds Tryz.pinned (.plain (OpenSpec.upto oomKnownSpec)) oomKnownUptoCard

/-- THE SECOND FORM's CARD OF 'headgatelaw34.OomRanks'. -/
def oomRanksUptoCard : Claim7 := { stood := { row := oomRanksUptoRow, standIns := [], harness := (true, "d01dd5e205be5157b9ef54fd363218ec2f729e9f55bbf63b4048868fb9e965fa"), looks := false }, kinds := [], alts := [], laidByText := true, laidKinds := [.data], laidTests := true, laidLooks := .later }
def OomRanksUptoCardSaid : Prop := Claim7.holds Tryz.pinned (.plain (OpenSpec.upto oomRanksSpec)) oomRanksUptoCard

/-- THE SECOND FORM's CARD OF 'headgatelaw34.OomSums'. -/
def oomSumsUptoCard : Claim7 := { stood := { row := oomSumsUptoRow, standIns := [], harness := (true, "d01dd5e205be5157b9ef54fd363218ec2f729e9f55bbf63b4048868fb9e965fa"), looks := false }, kinds := [], alts := [], laidByText := true, laidKinds := [.data], laidTests := true, laidLooks := .later }
def OomSumsUptoCardSaid : Prop := Claim7.holds Tryz.pinned (.plain (OpenSpec.upto oomSumsSpec)) oomSumsUptoCard

/-- THE SECOND FORM's CARD OF 'headgatelaw34.OomRare'. -/
def oomRareUptoCard : Claim7 := { stood := { row := oomRareUptoRow, standIns := [], harness := (true, "d01dd5e205be5157b9ef54fd363218ec2f729e9f55bbf63b4048868fb9e965fa"), looks := false }, kinds := [], alts := [], laidByText := true, laidKinds := [.data], laidTests := true, laidLooks := .later }
def OomRareUptoCardSaid : Prop := Claim7.holds Tryz.pinned (.plain (OpenSpec.upto oomRareSpec)) oomRareUptoCard
end Rows
end Go.Proofs.YtmbpjafiinfkkaaGreatDoor
