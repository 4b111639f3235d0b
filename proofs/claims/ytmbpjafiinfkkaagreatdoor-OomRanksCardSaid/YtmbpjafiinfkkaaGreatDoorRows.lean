/-
  NARROWER THAN 'FOR EVERY INPUT', by the rows' own cells (each row's printed sentence says how): OomVictims: laid · OomAllows: laid · OomKnown: laid · OomRanks: laid · OomSums: laid · OomRare: laid.
  DERIVED. THE GIVEN ROWS OF THIS SEAT. 6 by the template 'for every input the law returns true; each argument reads behind the call as it read before'; 0 by the template 'total and deterministic' (their statements: YtmbpjafiinfkkaaGreatDoorTotals.lean).
  GIVEN WITH THE SEED: the statements are not yours to turn. If you find one false, say at which input.
  Laid BY PROGRAM, IN A SANDBOX (cutbox-rows.mjs): the forced cells as the released guide's own fill.sh prints them over the translation 0ac43b079dce6ac2… (all of the seat's roots in one cut). By AI agents, Wed Nov 11 2026. No macro, syntax, notation, axiom, sorry.
-/
import Derived.Test.YtmbpjafiinfkkaaGreatDoorChecked
import GoSem.Claim
import GoSem.ClaimJoined
import GoSem.ClaimMapViews
import Derived.JoinedTies
import Derived.KernelRfl
namespace Go.Proofs.YtmbpjafiinfkkaaGreatDoor
/- THE CELL 'sum', in the pinned program and in every row, IS THE sha256 OF THE DUMP (.gsa) THAT YtmbpjafiinfkkaaGreatDoorProg.lean LOADS. Nothing in Lean hashes anything: it is a label: what it is worth is what the hold of that sum in a sandbox is worth. -/
noncomputable def Tryz.pinned : Pinned := { name := "ytmbpjafiinfkkaagreatdoor", sum := "0ac43b079dce6ac2651c29d0526530dfdeb97c4b0f133103f2da312927e86642", checked := Tryz.checked }
namespace Rows
def none {H : Type} : Left H := { results := [], args := [] }

/- WHAT THE LISTED PACKAGE-LEVEL VARIABLES READ AS WHEN THE CALL BEGINS. Each datum BY PROGRAM (the guide's laid-datum.mjs) off the statement by which the dump's own 'gosem.cut.vars' lays the variable. In a bare row this is a premise. The card (YtmbpjafiinfkkaaGreatDoorCards.lean) ties it to the program's text. -/
def laid_headgate_entry_layout {H : Type} : DataW H := .agg [.agg [.lit (.int .u64 0), .lit (.int .u64 3)], .agg [.lit (.int .u64 2), .lit (.int .u64 7)], .agg [.lit (.int .u64 8), .lit (.int .u64 255)]]

/-- 'headgatelaw34.OomVictims': WHATEVER THE INPUT: true; the input reads as it did. -/
def oomVictimsSpec : ChangeSpec := { name := "oomVictims", fn := fun _ => fun
  | [d1, d2] => { results := [.lit (.bool true)], args := [d1, d2] }
  | _ => none }
def oomVictimsRow : OpenClaim := { program := "ytmbpjafiinfkkaagreatdoor", sum := "0ac43b079dce6ac2651c29d0526530dfdeb97c4b0f133103f2da312927e86642", func := "headgate/headgatelaw34.OomVictims", spec := "oomVictims", unfollowed := true, recurses := true, named := ["headgate/entry.layout"], apart := false, laid := [("headgate/entry.layout", laid_headgate_entry_layout)] }
def OomVictimsSaid : Prop := oomVictimsRow.holds Tryz.pinned (OpenSpec.ofChange oomVictimsSpec)

/-- ITS FALSE NEIGHBOUR: 'it returns false'. Refute it at one input. -/
def oomVictimsWrong : ChangeSpec := { name := "oomVictims", fn := fun _ => fun
  | [d1, d2] => { results := [.lit (.bool false)], args := [d1, d2] }
  | _ => none }
def OomVictimsWrongFalsely : Prop := oomVictimsRow.holds Tryz.pinned (OpenSpec.ofChange oomVictimsWrong)

/-- 'headgatelaw34.OomAllows': WHATEVER THE INPUT: true; the input reads as it did. -/
def oomAllowsSpec : ChangeSpec := { name := "oomAllows", fn := fun _ => fun
  | [d1, d2, d3] => { results := [.lit (.bool true)], args := [d1, d2, d3] }
  | _ => none }
def oomAllowsRow : OpenClaim := { program := "ytmbpjafiinfkkaagreatdoor", sum := "0ac43b079dce6ac2651c29d0526530dfdeb97c4b0f133103f2da312927e86642", func := "headgate/headgatelaw34.OomAllows", spec := "oomAllows", unfollowed := true, recurses := true, named := ["headgate/entry.layout"], apart := false, laid := [("headgate/entry.layout", laid_headgate_entry_layout)] }
def OomAllowsSaid : Prop := oomAllowsRow.holds Tryz.pinned (OpenSpec.ofChange oomAllowsSpec)

/-- ITS FALSE NEIGHBOUR: 'it returns false'. Refute it at one input. -/
def oomAllowsWrong : ChangeSpec := { name := "oomAllows", fn := fun _ => fun
  | [d1, d2, d3] => { results := [.lit (.bool false)], args := [d1, d2, d3] }
  | _ => none }
def OomAllowsWrongFalsely : Prop := oomAllowsRow.holds Tryz.pinned (OpenSpec.ofChange oomAllowsWrong)

/-- 'headgatelaw34.OomKnown': WHATEVER THE INPUT: true; the input reads as it did. -/
def oomKnownSpec : ChangeSpec := { name := "oomKnown", fn := fun _ => fun
  | [] => { results := [.lit (.bool true)], args := [] }
  | _ => none }
def oomKnownRow : OpenClaim := { program := "ytmbpjafiinfkkaagreatdoor", sum := "0ac43b079dce6ac2651c29d0526530dfdeb97c4b0f133103f2da312927e86642", func := "headgate/headgatelaw34.OomKnown", spec := "oomKnown", unfollowed := true, recurses := true, named := ["headgate/entry.layout"], apart := false, laid := [("headgate/entry.layout", laid_headgate_entry_layout)] }
def OomKnownSaid : Prop := oomKnownRow.holds Tryz.pinned (OpenSpec.ofChange oomKnownSpec)

/-- ITS FALSE NEIGHBOUR: 'it returns false'. Refute it at one input. -/
def oomKnownWrong : ChangeSpec := { name := "oomKnown", fn := fun _ => fun
  | [] => { results := [.lit (.bool false)], args := [] }
  | _ => none }
def OomKnownWrongFalsely : Prop := oomKnownRow.holds Tryz.pinned (OpenSpec.ofChange oomKnownWrong)

/-- 'headgatelaw34.OomRanks': WHATEVER THE INPUT: true; the input reads as it did. -/
def oomRanksSpec : ChangeSpec := { name := "oomRanks", fn := fun _ => fun
  | [d1, d2] => { results := [.lit (.bool true)], args := [d1, d2] }
  | _ => none }
def oomRanksRow : OpenClaim := { program := "ytmbpjafiinfkkaagreatdoor", sum := "0ac43b079dce6ac2651c29d0526530dfdeb97c4b0f133103f2da312927e86642", func := "headgate/headgatelaw34.OomRanks", spec := "oomRanks", unfollowed := true, recurses := true, named := ["headgate/entry.layout"], apart := false, laid := [("headgate/entry.layout", laid_headgate_entry_layout)] }
def OomRanksSaid : Prop := oomRanksRow.holds Tryz.pinned (OpenSpec.ofChange oomRanksSpec)

/-- ITS FALSE NEIGHBOUR: 'it returns false'. Refute it at one input. -/
def oomRanksWrong : ChangeSpec := { name := "oomRanks", fn := fun _ => fun
  | [d1, d2] => { results := [.lit (.bool false)], args := [d1, d2] }
  | _ => none }
def OomRanksWrongFalsely : Prop := oomRanksRow.holds Tryz.pinned (OpenSpec.ofChange oomRanksWrong)

/-- 'headgatelaw34.OomSums': WHATEVER THE INPUT: true; the input reads as it did. -/
def oomSumsSpec : ChangeSpec := { name := "oomSums", fn := fun _ => fun
  | [d] => { results := [.lit (.bool true)], args := [d] }
  | _ => none }
def oomSumsRow : OpenClaim := { program := "ytmbpjafiinfkkaagreatdoor", sum := "0ac43b079dce6ac2651c29d0526530dfdeb97c4b0f133103f2da312927e86642", func := "headgate/headgatelaw34.OomSums", spec := "oomSums", unfollowed := true, recurses := true, named := ["headgate/entry.layout"], apart := false, laid := [("headgate/entry.layout", laid_headgate_entry_layout)] }
def OomSumsSaid : Prop := oomSumsRow.holds Tryz.pinned (OpenSpec.ofChange oomSumsSpec)

/-- ITS FALSE NEIGHBOUR: 'it returns false'. Refute it at one input. -/
def oomSumsWrong : ChangeSpec := { name := "oomSums", fn := fun _ => fun
  | [d] => { results := [.lit (.bool false)], args := [d] }
  | _ => none }
def OomSumsWrongFalsely : Prop := oomSumsRow.holds Tryz.pinned (OpenSpec.ofChange oomSumsWrong)

/-- 'headgatelaw34.OomRare': WHATEVER THE INPUT: true; the input reads as it did. -/
def oomRareSpec : ChangeSpec := { name := "oomRare", fn := fun _ => fun
  | [d1, d2, d3, d4, d5] => { results := [.lit (.bool true)], args := [d1, d2, d3, d4, d5] }
  | _ => none }
def oomRareRow : OpenClaim := { program := "ytmbpjafiinfkkaagreatdoor", sum := "0ac43b079dce6ac2651c29d0526530dfdeb97c4b0f133103f2da312927e86642", func := "headgate/headgatelaw34.OomRare", spec := "oomRare", unfollowed := true, recurses := true, named := ["headgate/entry.layout"], apart := false, laid := [("headgate/entry.layout", laid_headgate_entry_layout)] }
def OomRareSaid : Prop := oomRareRow.holds Tryz.pinned (OpenSpec.ofChange oomRareSpec)

/-- ITS FALSE NEIGHBOUR: 'it returns false'. Refute it at one input. -/
def oomRareWrong : ChangeSpec := { name := "oomRare", fn := fun _ => fun
  | [d1, d2, d3, d4, d5] => { results := [.lit (.bool false)], args := [d1, d2, d3, d4, d5] }
  | _ => none }
def OomRareWrongFalsely : Prop := oomRareRow.holds Tryz.pinned (OpenSpec.ofChange oomRareWrong)

/- THE SECOND FORM. 'bulk': how many values and letters a reading holds, each counted each time it is reached (what is shared counts as often as it is met; a slice's spare places count too). A statement '..UptoSaid' is the law's where the arguments, and the package variables that the reading takes, are together of bulk at most 1048576: NARROWER than '..Said'. Prove '..Said' where nothing that the law and all that it calls make is longer than what came in: it says more and counts as full. Else prove '..UptoSaid'. A law counts once. -/
mutual
def uptoBulk {H : Type} : DataW H → Nat
  | .lit (.string bytes) => bytes.length + 1
  | .lit _ => 1
  | .nil => 1
  | .ptr d => uptoBulk d + 1
  | .slice elems spare => uptoBulkAll elems + uptoBulkAll spare + 1
  | .agg parts => uptoBulkAll parts + 1
  | .iface _ d => uptoBulk d + 1
  | .map entries => uptoBulkEntries entries + 1
  | .held _ => 1
def uptoBulkAll {H : Type} : List (DataW H) → Nat
  | [] => 0
  | d :: r => uptoBulk d + uptoBulkAll r
def uptoBulkEntries {H : Type} : List (Lit × DataW H) → Nat
  | [] => 0
  | x :: r => uptoBulkEntry x + uptoBulkEntries r
def uptoBulkEntry {H : Type} : Lit × DataW H → Nat
  | (.string bytes, d) => bytes.length + uptoBulk d + 1
  | (_, d) => uptoBulk d + 1
 end
def uptoSmall : (H : Type) → List (DataW H) → Bool := fun _ ds => decide (uptoBulkAll ds ≤ 1048576)
def OpenSpec.upto (s : _root_.Go.ChangeSpec) : _root_.Go.OpenSpec := { _root_.Go.OpenSpec.ofChange s with cond := some uptoSmall }

/-- 'headgatelaw34.OomVictims', WHERE WHAT IT READS IS OF BULK AT MOST 1048576: true; the input reads as it did. -/
def oomVictimsUptoRow : OpenClaim := { program := "ytmbpjafiinfkkaagreatdoor", sum := "0ac43b079dce6ac2651c29d0526530dfdeb97c4b0f133103f2da312927e86642", func := "headgate/headgatelaw34.OomVictims", spec := "oomVictims", unfollowed := true, recurses := true, named := ["headgate/entry.layout"], apart := false, laid := [("headgate/entry.layout", laid_headgate_entry_layout)], narrowed := true }
def OomVictimsUptoSaid : Prop := oomVictimsUptoRow.holds Tryz.pinned (OpenSpec.upto oomVictimsSpec)

/-- 'headgatelaw34.OomAllows', WHERE WHAT IT READS IS OF BULK AT MOST 1048576: true; the input reads as it did. -/
def oomAllowsUptoRow : OpenClaim := { program := "ytmbpjafiinfkkaagreatdoor", sum := "0ac43b079dce6ac2651c29d0526530dfdeb97c4b0f133103f2da312927e86642", func := "headgate/headgatelaw34.OomAllows", spec := "oomAllows", unfollowed := true, recurses := true, named := ["headgate/entry.layout"], apart := false, laid := [("headgate/entry.layout", laid_headgate_entry_layout)], narrowed := true }
def OomAllowsUptoSaid : Prop := oomAllowsUptoRow.holds Tryz.pinned (OpenSpec.upto oomAllowsSpec)

/-- 'headgatelaw34.OomKnown', WHERE WHAT IT READS IS OF BULK AT MOST 1048576: true; the input reads as it did. -/
def oomKnownUptoRow : OpenClaim := { program := "ytmbpjafiinfkkaagreatdoor", sum := "0ac43b079dce6ac2651c29d0526530dfdeb97c4b0f133103f2da312927e86642", func := "headgate/headgatelaw34.OomKnown", spec := "oomKnown", unfollowed := true, recurses := true, named := ["headgate/entry.layout"], apart := false, laid := [("headgate/entry.layout", laid_headgate_entry_layout)], narrowed := true }
def OomKnownUptoSaid : Prop := oomKnownUptoRow.holds Tryz.pinned (OpenSpec.upto oomKnownSpec)

/-- 'headgatelaw34.OomRanks', WHERE WHAT IT READS IS OF BULK AT MOST 1048576: true; the input reads as it did. -/
def oomRanksUptoRow : OpenClaim := { program := "ytmbpjafiinfkkaagreatdoor", sum := "0ac43b079dce6ac2651c29d0526530dfdeb97c4b0f133103f2da312927e86642", func := "headgate/headgatelaw34.OomRanks", spec := "oomRanks", unfollowed := true, recurses := true, named := ["headgate/entry.layout"], apart := false, laid := [("headgate/entry.layout", laid_headgate_entry_layout)], narrowed := true }
def OomRanksUptoSaid : Prop := oomRanksUptoRow.holds Tryz.pinned (OpenSpec.upto oomRanksSpec)

/-- 'headgatelaw34.OomSums', WHERE WHAT IT READS IS OF BULK AT MOST 1048576: true; the input reads as it did. -/
def oomSumsUptoRow : OpenClaim := { program := "ytmbpjafiinfkkaagreatdoor", sum := "0ac43b079dce6ac2651c29d0526530dfdeb97c4b0f133103f2da312927e86642", func := "headgate/headgatelaw34.OomSums", spec := "oomSums", unfollowed := true, recurses := true, named := ["headgate/entry.layout"], apart := false, laid := [("headgate/entry.layout", laid_headgate_entry_layout)], narrowed := true }
def OomSumsUptoSaid : Prop := oomSumsUptoRow.holds Tryz.pinned (OpenSpec.upto oomSumsSpec)

/-- 'headgatelaw34.OomRare', WHERE WHAT IT READS IS OF BULK AT MOST 1048576: true; the input reads as it did. -/
def oomRareUptoRow : OpenClaim := { program := "ytmbpjafiinfkkaagreatdoor", sum := "0ac43b079dce6ac2651c29d0526530dfdeb97c4b0f133103f2da312927e86642", func := "headgate/headgatelaw34.OomRare", spec := "oomRare", unfollowed := true, recurses := true, named := ["headgate/entry.layout"], apart := false, laid := [("headgate/entry.layout", laid_headgate_entry_layout)], narrowed := true }
def OomRareUptoSaid : Prop := oomRareUptoRow.holds Tryz.pinned (OpenSpec.upto oomRareSpec)

end Rows
end Go.Proofs.YtmbpjafiinfkkaaGreatDoor
