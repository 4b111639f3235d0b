/-
  NARROWER THAN 'FOR EVERY INPUT', by the rows' own cells (each row's printed sentence says how): SwapWrites: laid · SwapMakes: laid · SwapCompletes: laid · SwapReads: laid · SwapKnown: laid · SwapValid: laid · SwapBack: laid · SwapClean: laid.
  DERIVED. THE GIVEN ROWS OF THIS SEAT. 8 by the template 'for every input the law returns true; each argument reads behind the call as it read before'; 0 by the template 'total and deterministic' (their statements: YthijbipidbjpfaaGreatDoorTotals.lean).
  GIVEN WITH THE SEED: the statements are not yours to turn. If you find one false, say at which input.
  Laid BY PROGRAM, IN A SANDBOX (cutbox-rows.mjs): the forced cells as the released guide's own fill.sh prints them over the translation 2b70ba5363122088… (all of the seat's roots in one cut). By AI agents, Wed Nov 11 2026. No macro, syntax, notation, axiom, sorry.
-/
import Derived.Test.YthijbipidbjpfaaGreatDoorChecked
import GoSem.Claim
import GoSem.ClaimJoined
import GoSem.ClaimMapViews
import Derived.JoinedTies
import Derived.KernelRfl
namespace Go.Proofs.YthijbipidbjpfaaGreatDoor
/- THE CELL 'sum', in the pinned program and in every row, IS THE sha256 OF THE DUMP (.gsa) THAT YthijbipidbjpfaaGreatDoorProg.lean LOADS. Nothing in Lean hashes anything: it is a label: what it is worth is what the hold of that sum in a sandbox is worth. -/
noncomputable def Tryz.pinned : Pinned := { name := "ythijbipidbjpfaagreatdoor", sum := "2b70ba5363122088bcd7235e906ef646d00234d3886e0f9a2160b7071795dcd0", checked := Tryz.checked }
namespace Rows
def none {H : Type} : Left H := { results := [], args := [] }

/- WHAT THE LISTED PACKAGE-LEVEL VARIABLES READ AS WHEN THE CALL BEGINS. Each datum BY PROGRAM (the guide's laid-datum.mjs) off the statement by which the dump's own 'gosem.cut.vars' lays the variable. In a bare row this is a premise. The card (YthijbipidbjpfaaGreatDoorCards.lean) ties it to the program's text. -/
def laid_math_bits_deBruijn64tab {H : Type} : DataW H := .agg [.lit (.int .u8 0), .lit (.int .u8 1), .lit (.int .u8 56), .lit (.int .u8 2), .lit (.int .u8 57), .lit (.int .u8 49), .lit (.int .u8 28), .lit (.int .u8 3), .lit (.int .u8 61), .lit (.int .u8 58), .lit (.int .u8 42), .lit (.int .u8 50), .lit (.int .u8 38), .lit (.int .u8 29), .lit (.int .u8 17), .lit (.int .u8 4), .lit (.int .u8 62), .lit (.int .u8 47), .lit (.int .u8 59), .lit (.int .u8 36), .lit (.int .u8 45), .lit (.int .u8 43), .lit (.int .u8 51), .lit (.int .u8 22), .lit (.int .u8 53), .lit (.int .u8 39), .lit (.int .u8 33), .lit (.int .u8 30), .lit (.int .u8 24), .lit (.int .u8 18), .lit (.int .u8 12), .lit (.int .u8 5), .lit (.int .u8 63), .lit (.int .u8 55), .lit (.int .u8 48), .lit (.int .u8 27), .lit (.int .u8 60), .lit (.int .u8 41), .lit (.int .u8 37), .lit (.int .u8 16), .lit (.int .u8 46), .lit (.int .u8 35), .lit (.int .u8 44), .lit (.int .u8 21), .lit (.int .u8 52), .lit (.int .u8 32), .lit (.int .u8 23), .lit (.int .u8 11), .lit (.int .u8 54), .lit (.int .u8 26), .lit (.int .u8 40), .lit (.int .u8 15), .lit (.int .u8 34), .lit (.int .u8 20), .lit (.int .u8 31), .lit (.int .u8 10), .lit (.int .u8 25), .lit (.int .u8 14), .lit (.int .u8 19), .lit (.int .u8 9), .lit (.int .u8 13), .lit (.int .u8 8), .lit (.int .u8 7), .lit (.int .u8 6)]

/-- 'headgatelaw22.SwapWrites': WHATEVER THE INPUT: true; the input reads as it did. -/
def swapWritesSpec : ChangeSpec := { name := "swapWrites", fn := fun _ => fun
  | [d1, d2, d3, d4] => { results := [.lit (.bool true)], args := [d1, d2, d3, d4] }
  | _ => none }
def swapWritesRow : OpenClaim := { program := "ythijbipidbjpfaagreatdoor", sum := "2b70ba5363122088bcd7235e906ef646d00234d3886e0f9a2160b7071795dcd0", func := "headgate/headgatelaw22.SwapWrites", spec := "swapWrites", unfollowed := true, recurses := true, named := ["math/bits.deBruijn64tab"], plainKeys := false, apart := false, laid := [("math/bits.deBruijn64tab", laid_math_bits_deBruijn64tab)] }
def SwapWritesSaid : Prop := swapWritesRow.holds Tryz.pinned (OpenSpec.ofChange swapWritesSpec)

/-- ITS FALSE NEIGHBOUR: 'it returns false'. Refute it at one input. -/
def swapWritesWrong : ChangeSpec := { name := "swapWrites", fn := fun _ => fun
  | [d1, d2, d3, d4] => { results := [.lit (.bool false)], args := [d1, d2, d3, d4] }
  | _ => none }
def SwapWritesWrongFalsely : Prop := swapWritesRow.holds Tryz.pinned (OpenSpec.ofChange swapWritesWrong)

/-- 'headgatelaw22.SwapMakes': WHATEVER THE INPUT: true; the input reads as it did. -/
def swapMakesSpec : ChangeSpec := { name := "swapMakes", fn := fun _ => fun
  | [d1, d2, d3] => { results := [.lit (.bool true)], args := [d1, d2, d3] }
  | _ => none }
def swapMakesRow : OpenClaim := { program := "ythijbipidbjpfaagreatdoor", sum := "2b70ba5363122088bcd7235e906ef646d00234d3886e0f9a2160b7071795dcd0", func := "headgate/headgatelaw22.SwapMakes", spec := "swapMakes", unfollowed := true, recurses := true, named := ["math/bits.deBruijn64tab"], plainKeys := false, apart := false, laid := [("math/bits.deBruijn64tab", laid_math_bits_deBruijn64tab)] }
def SwapMakesSaid : Prop := swapMakesRow.holds Tryz.pinned (OpenSpec.ofChange swapMakesSpec)

/-- ITS FALSE NEIGHBOUR: 'it returns false'. Refute it at one input. -/
def swapMakesWrong : ChangeSpec := { name := "swapMakes", fn := fun _ => fun
  | [d1, d2, d3] => { results := [.lit (.bool false)], args := [d1, d2, d3] }
  | _ => none }
def SwapMakesWrongFalsely : Prop := swapMakesRow.holds Tryz.pinned (OpenSpec.ofChange swapMakesWrong)

/-- 'headgatelaw22.SwapCompletes': WHATEVER THE INPUT: true; the input reads as it did. -/
def swapCompletesSpec : ChangeSpec := { name := "swapCompletes", fn := fun _ => fun
  | [d1, d2, d3] => { results := [.lit (.bool true)], args := [d1, d2, d3] }
  | _ => none }
def swapCompletesRow : OpenClaim := { program := "ythijbipidbjpfaagreatdoor", sum := "2b70ba5363122088bcd7235e906ef646d00234d3886e0f9a2160b7071795dcd0", func := "headgate/headgatelaw22.SwapCompletes", spec := "swapCompletes", unfollowed := true, recurses := true, named := ["math/bits.deBruijn64tab"], plainKeys := false, apart := false, laid := [("math/bits.deBruijn64tab", laid_math_bits_deBruijn64tab)] }
def SwapCompletesSaid : Prop := swapCompletesRow.holds Tryz.pinned (OpenSpec.ofChange swapCompletesSpec)

/-- ITS FALSE NEIGHBOUR: 'it returns false'. Refute it at one input. -/
def swapCompletesWrong : ChangeSpec := { name := "swapCompletes", fn := fun _ => fun
  | [d1, d2, d3] => { results := [.lit (.bool false)], args := [d1, d2, d3] }
  | _ => none }
def SwapCompletesWrongFalsely : Prop := swapCompletesRow.holds Tryz.pinned (OpenSpec.ofChange swapCompletesWrong)

/-- 'headgatelaw22.SwapReads': WHATEVER THE INPUT: true; the input reads as it did. -/
def swapReadsSpec : ChangeSpec := { name := "swapReads", fn := fun _ => fun
  | [d1, d2, d3, d4] => { results := [.lit (.bool true)], args := [d1, d2, d3, d4] }
  | _ => none }
def swapReadsRow : OpenClaim := { program := "ythijbipidbjpfaagreatdoor", sum := "2b70ba5363122088bcd7235e906ef646d00234d3886e0f9a2160b7071795dcd0", func := "headgate/headgatelaw22.SwapReads", spec := "swapReads", unfollowed := true, recurses := true, named := ["math/bits.deBruijn64tab"], plainKeys := false, apart := false, laid := [("math/bits.deBruijn64tab", laid_math_bits_deBruijn64tab)] }
def SwapReadsSaid : Prop := swapReadsRow.holds Tryz.pinned (OpenSpec.ofChange swapReadsSpec)

/-- ITS FALSE NEIGHBOUR: 'it returns false'. Refute it at one input. -/
def swapReadsWrong : ChangeSpec := { name := "swapReads", fn := fun _ => fun
  | [d1, d2, d3, d4] => { results := [.lit (.bool false)], args := [d1, d2, d3, d4] }
  | _ => none }
def SwapReadsWrongFalsely : Prop := swapReadsRow.holds Tryz.pinned (OpenSpec.ofChange swapReadsWrong)

/-- 'headgatelaw22.SwapKnown': WHATEVER THE INPUT: true; the input reads as it did. -/
def swapKnownSpec : ChangeSpec := { name := "swapKnown", fn := fun _ => fun
  | [] => { results := [.lit (.bool true)], args := [] }
  | _ => none }
def swapKnownRow : OpenClaim := { program := "ythijbipidbjpfaagreatdoor", sum := "2b70ba5363122088bcd7235e906ef646d00234d3886e0f9a2160b7071795dcd0", func := "headgate/headgatelaw22.SwapKnown", spec := "swapKnown", unfollowed := true, recurses := true, named := ["math/bits.deBruijn64tab"], plainKeys := false, apart := false, laid := [("math/bits.deBruijn64tab", laid_math_bits_deBruijn64tab)] }
def SwapKnownSaid : Prop := swapKnownRow.holds Tryz.pinned (OpenSpec.ofChange swapKnownSpec)

/-- ITS FALSE NEIGHBOUR: 'it returns false'. Refute it at one input. -/
def swapKnownWrong : ChangeSpec := { name := "swapKnown", fn := fun _ => fun
  | [] => { results := [.lit (.bool false)], args := [] }
  | _ => none }
def SwapKnownWrongFalsely : Prop := swapKnownRow.holds Tryz.pinned (OpenSpec.ofChange swapKnownWrong)

/-- 'headgatelaw22.SwapValid': WHATEVER THE INPUT: true; the input reads as it did. -/
def swapValidSpec : ChangeSpec := { name := "swapValid", fn := fun _ => fun
  | [d] => { results := [.lit (.bool true)], args := [d] }
  | _ => none }
def swapValidRow : OpenClaim := { program := "ythijbipidbjpfaagreatdoor", sum := "2b70ba5363122088bcd7235e906ef646d00234d3886e0f9a2160b7071795dcd0", func := "headgate/headgatelaw22.SwapValid", spec := "swapValid", unfollowed := true, recurses := true, named := ["math/bits.deBruijn64tab"], plainKeys := false, apart := false, laid := [("math/bits.deBruijn64tab", laid_math_bits_deBruijn64tab)] }
def SwapValidSaid : Prop := swapValidRow.holds Tryz.pinned (OpenSpec.ofChange swapValidSpec)

/-- ITS FALSE NEIGHBOUR: 'it returns false'. Refute it at one input. -/
def swapValidWrong : ChangeSpec := { name := "swapValid", fn := fun _ => fun
  | [d] => { results := [.lit (.bool false)], args := [d] }
  | _ => none }
def SwapValidWrongFalsely : Prop := swapValidRow.holds Tryz.pinned (OpenSpec.ofChange swapValidWrong)

/-- 'headgatelaw22.SwapBack': WHATEVER THE INPUT: true; the input reads as it did. -/
def swapBackSpec : ChangeSpec := { name := "swapBack", fn := fun _ => fun
  | [d1, d2, d3] => { results := [.lit (.bool true)], args := [d1, d2, d3] }
  | _ => none }
def swapBackRow : OpenClaim := { program := "ythijbipidbjpfaagreatdoor", sum := "2b70ba5363122088bcd7235e906ef646d00234d3886e0f9a2160b7071795dcd0", func := "headgate/headgatelaw22.SwapBack", spec := "swapBack", unfollowed := true, recurses := true, named := ["math/bits.deBruijn64tab"], plainKeys := false, apart := false, laid := [("math/bits.deBruijn64tab", laid_math_bits_deBruijn64tab)] }
def SwapBackSaid : Prop := swapBackRow.holds Tryz.pinned (OpenSpec.ofChange swapBackSpec)

/-- ITS FALSE NEIGHBOUR: 'it returns false'. Refute it at one input. -/
def swapBackWrong : ChangeSpec := { name := "swapBack", fn := fun _ => fun
  | [d1, d2, d3] => { results := [.lit (.bool false)], args := [d1, d2, d3] }
  | _ => none }
def SwapBackWrongFalsely : Prop := swapBackRow.holds Tryz.pinned (OpenSpec.ofChange swapBackWrong)

/-- 'headgatelaw22.SwapClean': WHATEVER THE INPUT: true; the input reads as it did. -/
def swapCleanSpec : ChangeSpec := { name := "swapClean", fn := fun _ => fun
  | [d1, d2] => { results := [.lit (.bool true)], args := [d1, d2] }
  | _ => none }
def swapCleanRow : OpenClaim := { program := "ythijbipidbjpfaagreatdoor", sum := "2b70ba5363122088bcd7235e906ef646d00234d3886e0f9a2160b7071795dcd0", func := "headgate/headgatelaw22.SwapClean", spec := "swapClean", unfollowed := true, recurses := true, named := ["math/bits.deBruijn64tab"], plainKeys := false, apart := false, laid := [("math/bits.deBruijn64tab", laid_math_bits_deBruijn64tab)] }
def SwapCleanSaid : Prop := swapCleanRow.holds Tryz.pinned (OpenSpec.ofChange swapCleanSpec)

/-- ITS FALSE NEIGHBOUR: 'it returns false'. Refute it at one input. -/
def swapCleanWrong : ChangeSpec := { name := "swapClean", fn := fun _ => fun
  | [d1, d2] => { results := [.lit (.bool false)], args := [d1, d2] }
  | _ => none }
def SwapCleanWrongFalsely : Prop := swapCleanRow.holds Tryz.pinned (OpenSpec.ofChange swapCleanWrong)

/- THE SECOND FORM. 'bulk': how many values and letters a reading holds, each counted each time it is reached (what is shared counts as often as it is met; a slice's spare places count too). A statement '..UptoSaid' is the law's where the arguments, and the package variables that the reading takes, are together of bulk at most 1048576: NARROWER than '..Said'. Prove '..Said' where nothing that the law and all that it calls make is longer than what came in: it says more and counts as full. Else prove '..UptoSaid'. A law counts once. -/
mutual
def uptoBulk {H : Type} : DataW H → Nat
  | .lit (.string bytes) => bytes.length + 1
  | .lit _ => 1
  | .nil => 1
  | .ptr d => uptoBulk d + 1
  | .slice elems spare => uptoBulkAll elems + uptoBulkAll spare + 1
  | .agg parts => uptoBulkAll parts + 1
  | .iface _ d => uptoBulk d + 1
  | .map entries => uptoBulkEntries entries + 1
  | .held _ => 1
def uptoBulkAll {H : Type} : List (DataW H) → Nat
  | [] => 0
  | d :: r => uptoBulk d + uptoBulkAll r
def uptoBulkEntries {H : Type} : List (Lit × DataW H) → Nat
  | [] => 0
  | x :: r => uptoBulkEntry x + uptoBulkEntries r
def uptoBulkEntry {H : Type} : Lit × DataW H → Nat
  | (.string bytes, d) => bytes.length + uptoBulk d + 1
  | (_, d) => uptoBulk d + 1
 end
def uptoSmall : (H : Type) → List (DataW H) → Bool := fun _ ds => decide (uptoBulkAll ds ≤ 1048576)
def OpenSpec.upto (s : _root_.Go.ChangeSpec) : _root_.Go.OpenSpec := { _root_.Go.OpenSpec.ofChange s with cond := some uptoSmall }

/-- 'headgatelaw22.SwapWrites', WHERE WHAT IT READS IS OF BULK AT MOST 1048576: true; the input reads as it did. -/
def swapWritesUptoRow : OpenClaim := { program := "ythijbipidbjpfaagreatdoor", sum := "2b70ba5363122088bcd7235e906ef646d00234d3886e0f9a2160b7071795dcd0", func := "headgate/headgatelaw22.SwapWrites", spec := "swapWrites", unfollowed := true, recurses := true, named := ["math/bits.deBruijn64tab"], plainKeys := false, apart := false, laid := [("math/bits.deBruijn64tab", laid_math_bits_deBruijn64tab)], narrowed := true }
def SwapWritesUptoSaid : Prop := swapWritesUptoRow.holds Tryz.pinned (OpenSpec.upto swapWritesSpec)

/-- 'headgatelaw22.SwapMakes', WHERE WHAT IT READS IS OF BULK AT MOST 1048576: true; the input reads as it did. -/
def swapMakesUptoRow : OpenClaim := { program := "ythijbipidbjpfaagreatdoor", sum := "2b70ba5363122088bcd7235e906ef646d00234d3886e0f9a2160b7071795dcd0", func := "headgate/headgatelaw22.SwapMakes", spec := "swapMakes", unfollowed := true, recurses := true, named := ["math/bits.deBruijn64tab"], plainKeys := false, apart := false, laid := [("math/bits.deBruijn64tab", laid_math_bits_deBruijn64tab)], narrowed := true }
def SwapMakesUptoSaid : Prop := swapMakesUptoRow.holds Tryz.pinned (OpenSpec.upto swapMakesSpec)

/-- 'headgatelaw22.SwapCompletes', WHERE WHAT IT READS IS OF BULK AT MOST 1048576: true; the input reads as it did. -/
def swapCompletesUptoRow : OpenClaim := { program := "ythijbipidbjpfaagreatdoor", sum := "2b70ba5363122088bcd7235e906ef646d00234d3886e0f9a2160b7071795dcd0", func := "headgate/headgatelaw22.SwapCompletes", spec := "swapCompletes", unfollowed := true, recurses := true, named := ["math/bits.deBruijn64tab"], plainKeys := false, apart := false, laid := [("math/bits.deBruijn64tab", laid_math_bits_deBruijn64tab)], narrowed := true }
def SwapCompletesUptoSaid : Prop := swapCompletesUptoRow.holds Tryz.pinned (OpenSpec.upto swapCompletesSpec)

/-- 'headgatelaw22.SwapReads', WHERE WHAT IT READS IS OF BULK AT MOST 1048576: true; the input reads as it did. -/
def swapReadsUptoRow : OpenClaim := { program := "ythijbipidbjpfaagreatdoor", sum := "2b70ba5363122088bcd7235e906ef646d00234d3886e0f9a2160b7071795dcd0", func := "headgate/headgatelaw22.SwapReads", spec := "swapReads", unfollowed := true, recurses := true, named := ["math/bits.deBruijn64tab"], plainKeys := false, apart := false, laid := [("math/bits.deBruijn64tab", laid_math_bits_deBruijn64tab)], narrowed := true }
def SwapReadsUptoSaid : Prop := swapReadsUptoRow.holds Tryz.pinned (OpenSpec.upto swapReadsSpec)

/-- 'headgatelaw22.SwapKnown', WHERE WHAT IT READS IS OF BULK AT MOST 1048576: true; the input reads as it did. -/
def swapKnownUptoRow : OpenClaim := { program := "ythijbipidbjpfaagreatdoor", sum := "2b70ba5363122088bcd7235e906ef646d00234d3886e0f9a2160b7071795dcd0", func := "headgate/headgatelaw22.SwapKnown", spec := "swapKnown", unfollowed := true, recurses := true, named := ["math/bits.deBruijn64tab"], plainKeys := false, apart := false, laid := [("math/bits.deBruijn64tab", laid_math_bits_deBruijn64tab)], narrowed := true }
def SwapKnownUptoSaid : Prop := swapKnownUptoRow.holds Tryz.pinned (OpenSpec.upto swapKnownSpec)

/-- 'headgatelaw22.SwapValid', WHERE WHAT IT READS IS OF BULK AT MOST 1048576: true; the input reads as it did. -/
def swapValidUptoRow : OpenClaim := { program := "ythijbipidbjpfaagreatdoor", sum := "2b70ba5363122088bcd7235e906ef646d00234d3886e0f9a2160b7071795dcd0", func := "headgate/headgatelaw22.SwapValid", spec := "swapValid", unfollowed := true, recurses := true, named := ["math/bits.deBruijn64tab"], plainKeys := false, apart := false, laid := [("math/bits.deBruijn64tab", laid_math_bits_deBruijn64tab)], narrowed := true }
def SwapValidUptoSaid : Prop := swapValidUptoRow.holds Tryz.pinned (OpenSpec.upto swapValidSpec)

/-- 'headgatelaw22.SwapBack', WHERE WHAT IT READS IS OF BULK AT MOST 1048576: true; the input reads as it did. -/
def swapBackUptoRow : OpenClaim := { program := "ythijbipidbjpfaagreatdoor", sum := "2b70ba5363122088bcd7235e906ef646d00234d3886e0f9a2160b7071795dcd0", func := "headgate/headgatelaw22.SwapBack", spec := "swapBack", unfollowed := true, recurses := true, named := ["math/bits.deBruijn64tab"], plainKeys := false, apart := false, laid := [("math/bits.deBruijn64tab", laid_math_bits_deBruijn64tab)], narrowed := true }
def SwapBackUptoSaid : Prop := swapBackUptoRow.holds Tryz.pinned (OpenSpec.upto swapBackSpec)

/-- 'headgatelaw22.SwapClean', WHERE WHAT IT READS IS OF BULK AT MOST 1048576: true; the input reads as it did. -/
def swapCleanUptoRow : OpenClaim := { program := "ythijbipidbjpfaagreatdoor", sum := "2b70ba5363122088bcd7235e906ef646d00234d3886e0f9a2160b7071795dcd0", func := "headgate/headgatelaw22.SwapClean", spec := "swapClean", unfollowed := true, recurses := true, named := ["math/bits.deBruijn64tab"], plainKeys := false, apart := false, laid := [("math/bits.deBruijn64tab", laid_math_bits_deBruijn64tab)], narrowed := true }
def SwapCleanUptoSaid : Prop := swapCleanUptoRow.holds Tryz.pinned (OpenSpec.upto swapCleanSpec)

end Rows
end Go.Proofs.YthijbipidbjpfaaGreatDoor
