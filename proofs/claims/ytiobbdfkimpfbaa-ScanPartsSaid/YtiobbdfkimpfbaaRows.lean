/-
  No cell of these rows narrows 'for every input' (looked for: loops, veiled, ifaces, maps, wideKeys, modest, calm, conditions, laid).
  DERIVED. THE GIVEN ROWS OF THIS SEAT. 7 by the template 'for every input the law returns true; each argument reads behind the call as it read before'; 0 by the template 'total and deterministic' (their statements: YtiobbdfkimpfbaaTotals.lean).
  GIVEN WITH THE SEED: the statements are not yours to turn. If you find one false, say at which input.
  Laid BY PROGRAM, IN A SANDBOX (cutbox-rows.mjs): the forced cells as the released guide's own fill.sh prints them over the translation bdc28bed44fe491c… (all of the seat's roots in one cut). By AI agents, Wed Nov 11 2026. No macro, syntax, notation, axiom, sorry.
-/
import Derived.Test.YtiobbdfkimpfbaaChecked
import GoSem.Claim
import GoSem.ClaimJoined
import GoSem.ClaimMapViews
import Derived.JoinedTies
import Derived.KernelRfl
namespace Go.Proofs.Ytiobbdfkimpfbaa
/- THE CELL 'sum', in the pinned program and in every row, IS THE sha256 OF THE DUMP (.gsa) THAT YtiobbdfkimpfbaaProg.lean LOADS. Nothing in Lean hashes anything: it is a label: what it is worth is what the hold of that sum in a sandbox is worth. -/
noncomputable def Try.pinned : Pinned := { name := "ytiobbdfkimpfbaa", sum := "bdc28bed44fe491cfc16c677ba580d273ba4112388237eedf95b9787e3254fd2", checked := Try.checked }
namespace Rows
def none {H : Type} : Left H := { results := [], args := [] }

/-- 'headgatelaw30.ScanSteps': WHATEVER THE INPUT: true; the input reads as it did. -/
def scanStepsSpec : ChangeSpec := { name := "scanSteps", fn := fun _ => fun
  | [d1, d2] => { results := [.lit (.bool true)], args := [d1, d2] }
  | _ => none }
def scanStepsRow : OpenClaim := { program := "ytiobbdfkimpfbaa", sum := "bdc28bed44fe491cfc16c677ba580d273ba4112388237eedf95b9787e3254fd2", func := "headgate/headgatelaw30.ScanSteps", spec := "scanSteps", inPlace := ["slices.overlaps[int]"], unfollowed := true, recurses := true, apart := false }
def ScanStepsSaid : Prop := scanStepsRow.holds Try.pinned (OpenSpec.ofChange scanStepsSpec)

/-- ITS FALSE NEIGHBOUR: 'it returns false'. Refute it at one input. -/
def scanStepsWrong : ChangeSpec := { name := "scanSteps", fn := fun _ => fun
  | [d1, d2] => { results := [.lit (.bool false)], args := [d1, d2] }
  | _ => none }
def ScanStepsWrongFalsely : Prop := scanStepsRow.holds Try.pinned (OpenSpec.ofChange scanStepsWrong)

/-- 'headgatelaw30.ScanSweeps': WHATEVER THE INPUT: true; the input reads as it did. -/
def scanSweepsSpec : ChangeSpec := { name := "scanSweeps", fn := fun _ => fun
  | [d1, d2, d3] => { results := [.lit (.bool true)], args := [d1, d2, d3] }
  | _ => none }
def scanSweepsRow : OpenClaim := { program := "ytiobbdfkimpfbaa", sum := "bdc28bed44fe491cfc16c677ba580d273ba4112388237eedf95b9787e3254fd2", func := "headgate/headgatelaw30.ScanSweeps", spec := "scanSweeps", inPlace := ["slices.overlaps[int]"], unfollowed := true, recurses := true, apart := false }
def ScanSweepsSaid : Prop := scanSweepsRow.holds Try.pinned (OpenSpec.ofChange scanSweepsSpec)

/-- ITS FALSE NEIGHBOUR: 'it returns false'. Refute it at one input. -/
def scanSweepsWrong : ChangeSpec := { name := "scanSweeps", fn := fun _ => fun
  | [d1, d2, d3] => { results := [.lit (.bool false)], args := [d1, d2, d3] }
  | _ => none }
def ScanSweepsWrongFalsely : Prop := scanSweepsRow.holds Try.pinned (OpenSpec.ofChange scanSweepsWrong)

/-- 'headgatelaw30.ScanKnown': WHATEVER THE INPUT: true; the input reads as it did. -/
def scanKnownSpec : ChangeSpec := { name := "scanKnown", fn := fun _ => fun
  | [] => { results := [.lit (.bool true)], args := [] }
  | _ => none }
def scanKnownRow : OpenClaim := { program := "ytiobbdfkimpfbaa", sum := "bdc28bed44fe491cfc16c677ba580d273ba4112388237eedf95b9787e3254fd2", func := "headgate/headgatelaw30.ScanKnown", spec := "scanKnown", inPlace := ["slices.overlaps[int]"], unfollowed := true, recurses := true, apart := false }
def ScanKnownSaid : Prop := scanKnownRow.holds Try.pinned (OpenSpec.ofChange scanKnownSpec)

/-- ITS FALSE NEIGHBOUR: 'it returns false'. Refute it at one input. -/
def scanKnownWrong : ChangeSpec := { name := "scanKnown", fn := fun _ => fun
  | [] => { results := [.lit (.bool false)], args := [] }
  | _ => none }
def ScanKnownWrongFalsely : Prop := scanKnownRow.holds Try.pinned (OpenSpec.ofChange scanKnownWrong)

/-- 'headgatelaw30.ScanOne': WHATEVER THE INPUT: true; the input reads as it did. -/
def scanOneSpec : ChangeSpec := { name := "scanOne", fn := fun _ => fun
  | [d1, d2] => { results := [.lit (.bool true)], args := [d1, d2] }
  | _ => none }
def scanOneRow : OpenClaim := { program := "ytiobbdfkimpfbaa", sum := "bdc28bed44fe491cfc16c677ba580d273ba4112388237eedf95b9787e3254fd2", func := "headgate/headgatelaw30.ScanOne", spec := "scanOne", inPlace := ["slices.overlaps[int]"], unfollowed := true, recurses := true, apart := false }
def ScanOneSaid : Prop := scanOneRow.holds Try.pinned (OpenSpec.ofChange scanOneSpec)

/-- ITS FALSE NEIGHBOUR: 'it returns false'. Refute it at one input. -/
def scanOneWrong : ChangeSpec := { name := "scanOne", fn := fun _ => fun
  | [d1, d2] => { results := [.lit (.bool false)], args := [d1, d2] }
  | _ => none }
def ScanOneWrongFalsely : Prop := scanOneRow.holds Try.pinned (OpenSpec.ofChange scanOneWrong)

/-- 'headgatelaw30.ScanFirst': WHATEVER THE INPUT: true; the input reads as it did. -/
def scanFirstSpec : ChangeSpec := { name := "scanFirst", fn := fun _ => fun
  | [d1, d2] => { results := [.lit (.bool true)], args := [d1, d2] }
  | _ => none }
def scanFirstRow : OpenClaim := { program := "ytiobbdfkimpfbaa", sum := "bdc28bed44fe491cfc16c677ba580d273ba4112388237eedf95b9787e3254fd2", func := "headgate/headgatelaw30.ScanFirst", spec := "scanFirst", inPlace := ["slices.overlaps[int]"], unfollowed := true, recurses := true, apart := false }
def ScanFirstSaid : Prop := scanFirstRow.holds Try.pinned (OpenSpec.ofChange scanFirstSpec)

/-- ITS FALSE NEIGHBOUR: 'it returns false'. Refute it at one input. -/
def scanFirstWrong : ChangeSpec := { name := "scanFirst", fn := fun _ => fun
  | [d1, d2] => { results := [.lit (.bool false)], args := [d1, d2] }
  | _ => none }
def ScanFirstWrongFalsely : Prop := scanFirstRow.holds Try.pinned (OpenSpec.ofChange scanFirstWrong)

/-- 'headgatelaw30.ScanDirect': WHATEVER THE INPUT: true; the input reads as it did. -/
def scanDirectSpec : ChangeSpec := { name := "scanDirect", fn := fun _ => fun
  | [d] => { results := [.lit (.bool true)], args := [d] }
  | _ => none }
def scanDirectRow : OpenClaim := { program := "ytiobbdfkimpfbaa", sum := "bdc28bed44fe491cfc16c677ba580d273ba4112388237eedf95b9787e3254fd2", func := "headgate/headgatelaw30.ScanDirect", spec := "scanDirect", inPlace := ["slices.overlaps[int]"], unfollowed := true, recurses := true, apart := false }
def ScanDirectSaid : Prop := scanDirectRow.holds Try.pinned (OpenSpec.ofChange scanDirectSpec)

/-- ITS FALSE NEIGHBOUR: 'it returns false'. Refute it at one input. -/
def scanDirectWrong : ChangeSpec := { name := "scanDirect", fn := fun _ => fun
  | [d] => { results := [.lit (.bool false)], args := [d] }
  | _ => none }
def ScanDirectWrongFalsely : Prop := scanDirectRow.holds Try.pinned (OpenSpec.ofChange scanDirectWrong)

/-- 'headgatelaw30.ScanParts': WHATEVER THE INPUT: true; the input reads as it did. -/
def scanPartsSpec : ChangeSpec := { name := "scanParts", fn := fun _ => fun
  | [d1, d2, d3, d4] => { results := [.lit (.bool true)], args := [d1, d2, d3, d4] }
  | _ => none }
def scanPartsRow : OpenClaim := { program := "ytiobbdfkimpfbaa", sum := "bdc28bed44fe491cfc16c677ba580d273ba4112388237eedf95b9787e3254fd2", func := "headgate/headgatelaw30.ScanParts", spec := "scanParts", inPlace := ["slices.overlaps[int]"], unfollowed := true, recurses := true, apart := false }
def ScanPartsSaid : Prop := scanPartsRow.holds Try.pinned (OpenSpec.ofChange scanPartsSpec)

/-- ITS FALSE NEIGHBOUR: 'it returns false'. Refute it at one input. -/
def scanPartsWrong : ChangeSpec := { name := "scanParts", fn := fun _ => fun
  | [d1, d2, d3, d4] => { results := [.lit (.bool false)], args := [d1, d2, d3, d4] }
  | _ => none }
def ScanPartsWrongFalsely : Prop := scanPartsRow.holds Try.pinned (OpenSpec.ofChange scanPartsWrong)

/- THE SECOND FORM. 'bulk': how many values and letters a reading holds, each counted each time it is reached (what is shared counts as often as it is met; a slice's spare places count too). A statement '..UptoSaid' is the law's where the arguments, and the package variables that the reading takes, are together of bulk at most 1048576: NARROWER than '..Said'. Prove '..Said' where nothing that the law and all that it calls make is longer than what came in: it says more and counts as full. Else prove '..UptoSaid'. A law counts once. -/
mutual
def uptoBulk {H : Type} : DataW H → Nat
  | .lit (.string bytes) => bytes.length + 1
  | .lit _ => 1
  | .nil => 1
  | .ptr d => uptoBulk d + 1
  | .slice elems spare => uptoBulkAll elems + uptoBulkAll spare + 1
  | .agg parts => uptoBulkAll parts + 1
  | .iface _ d => uptoBulk d + 1
  | .map entries => uptoBulkEntries entries + 1
  | .held _ => 1
def uptoBulkAll {H : Type} : List (DataW H) → Nat
  | [] => 0
  | d :: r => uptoBulk d + uptoBulkAll r
def uptoBulkEntries {H : Type} : List (Lit × DataW H) → Nat
  | [] => 0
  | x :: r => uptoBulkEntry x + uptoBulkEntries r
def uptoBulkEntry {H : Type} : Lit × DataW H → Nat
  | (.string bytes, d) => bytes.length + uptoBulk d + 1
  | (_, d) => uptoBulk d + 1
 end
def uptoSmall : (H : Type) → List (DataW H) → Bool := fun _ ds => decide (uptoBulkAll ds ≤ 1048576)
def OpenSpec.upto (s : _root_.Go.ChangeSpec) : _root_.Go.OpenSpec := { _root_.Go.OpenSpec.ofChange s with cond := some uptoSmall }

/-- 'headgatelaw30.ScanSteps', WHERE WHAT IT READS IS OF BULK AT MOST 1048576: true; the input reads as it did. -/
def scanStepsUptoRow : OpenClaim := { program := "ytiobbdfkimpfbaa", sum := "bdc28bed44fe491cfc16c677ba580d273ba4112388237eedf95b9787e3254fd2", func := "headgate/headgatelaw30.ScanSteps", spec := "scanSteps", inPlace := ["slices.overlaps[int]"], unfollowed := true, recurses := true, apart := false, narrowed := true }
def ScanStepsUptoSaid : Prop := scanStepsUptoRow.holds Try.pinned (OpenSpec.upto scanStepsSpec)

/-- 'headgatelaw30.ScanSweeps', WHERE WHAT IT READS IS OF BULK AT MOST 1048576: true; the input reads as it did. -/
def scanSweepsUptoRow : OpenClaim := { program := "ytiobbdfkimpfbaa", sum := "bdc28bed44fe491cfc16c677ba580d273ba4112388237eedf95b9787e3254fd2", func := "headgate/headgatelaw30.ScanSweeps", spec := "scanSweeps", inPlace := ["slices.overlaps[int]"], unfollowed := true, recurses := true, apart := false, narrowed := true }
def ScanSweepsUptoSaid : Prop := scanSweepsUptoRow.holds Try.pinned (OpenSpec.upto scanSweepsSpec)

/-- 'headgatelaw30.ScanKnown', WHERE WHAT IT READS IS OF BULK AT MOST 1048576: true; the input reads as it did. -/
def scanKnownUptoRow : OpenClaim := { program := "ytiobbdfkimpfbaa", sum := "bdc28bed44fe491cfc16c677ba580d273ba4112388237eedf95b9787e3254fd2", func := "headgate/headgatelaw30.ScanKnown", spec := "scanKnown", inPlace := ["slices.overlaps[int]"], unfollowed := true, recurses := true, apart := false, narrowed := true }
def ScanKnownUptoSaid : Prop := scanKnownUptoRow.holds Try.pinned (OpenSpec.upto scanKnownSpec)

/-- 'headgatelaw30.ScanOne', WHERE WHAT IT READS IS OF BULK AT MOST 1048576: true; the input reads as it did. -/
def scanOneUptoRow : OpenClaim := { program := "ytiobbdfkimpfbaa", sum := "bdc28bed44fe491cfc16c677ba580d273ba4112388237eedf95b9787e3254fd2", func := "headgate/headgatelaw30.ScanOne", spec := "scanOne", inPlace := ["slices.overlaps[int]"], unfollowed := true, recurses := true, apart := false, narrowed := true }
def ScanOneUptoSaid : Prop := scanOneUptoRow.holds Try.pinned (OpenSpec.upto scanOneSpec)

/-- 'headgatelaw30.ScanFirst', WHERE WHAT IT READS IS OF BULK AT MOST 1048576: true; the input reads as it did. -/
def scanFirstUptoRow : OpenClaim := { program := "ytiobbdfkimpfbaa", sum := "bdc28bed44fe491cfc16c677ba580d273ba4112388237eedf95b9787e3254fd2", func := "headgate/headgatelaw30.ScanFirst", spec := "scanFirst", inPlace := ["slices.overlaps[int]"], unfollowed := true, recurses := true, apart := false, narrowed := true }
def ScanFirstUptoSaid : Prop := scanFirstUptoRow.holds Try.pinned (OpenSpec.upto scanFirstSpec)

/-- 'headgatelaw30.ScanDirect', WHERE WHAT IT READS IS OF BULK AT MOST 1048576: true; the input reads as it did. -/
def scanDirectUptoRow : OpenClaim := { program := "ytiobbdfkimpfbaa", sum := "bdc28bed44fe491cfc16c677ba580d273ba4112388237eedf95b9787e3254fd2", func := "headgate/headgatelaw30.ScanDirect", spec := "scanDirect", inPlace := ["slices.overlaps[int]"], unfollowed := true, recurses := true, apart := false, narrowed := true }
def ScanDirectUptoSaid : Prop := scanDirectUptoRow.holds Try.pinned (OpenSpec.upto scanDirectSpec)

/-- 'headgatelaw30.ScanParts', WHERE WHAT IT READS IS OF BULK AT MOST 1048576: true; the input reads as it did. -/
def scanPartsUptoRow : OpenClaim := { program := "ytiobbdfkimpfbaa", sum := "bdc28bed44fe491cfc16c677ba580d273ba4112388237eedf95b9787e3254fd2", func := "headgate/headgatelaw30.ScanParts", spec := "scanParts", inPlace := ["slices.overlaps[int]"], unfollowed := true, recurses := true, apart := false, narrowed := true }
def ScanPartsUptoSaid : Prop := scanPartsUptoRow.holds Try.pinned (OpenSpec.upto scanPartsSpec)

end Rows
end Go.Proofs.Ytiobbdfkimpfbaa
