/-
  No cell of these rows narrows 'for every input' (looked for: loops, veiled, ifaces, maps, wideKeys, modest, calm, conditions, laid).
  DERIVED. THE GIVEN ROWS OF THIS SEAT. 7 by the template 'for every input the law returns true; each argument reads behind the call as it read before'; 0 by the template 'total and deterministic' (their statements: YtjilfijpepbfeaaTotals.lean).
  GIVEN WITH THE SEED: the statements are not yours to turn. If you find one false, say at which input.
  Laid BY PROGRAM, IN A SANDBOX (cutbox-rows.mjs): the forced cells as the released guide's own fill.sh prints them over the translation bb10665353315b08… (all of the seat's roots in one cut). By AI agents, Wed Nov 11 2026. No macro, syntax, notation, axiom, sorry.
-/
import Derived.Test.YtjilfijpepbfeaaChecked
import GoSem.Claim
import GoSem.ClaimJoined
import GoSem.ClaimMapViews
import Derived.JoinedTies
import Derived.KernelRfl
namespace Go.Proofs.Ytjilfijpepbfeaa
/- THE CELL 'sum', in the pinned program and in every row, IS THE sha256 OF THE DUMP (.gsa) THAT YtjilfijpepbfeaaProg.lean LOADS. Nothing in Lean hashes anything: it is a label: what it is worth is what the hold of that sum in a sandbox is worth. -/
noncomputable def Try.pinned : Pinned := { name := "ytjilfijpepbfeaa", sum := "bb10665353315b08654384a4117759e60b7f323e9e3cca447f81ad0dc0c94210", checked := Try.checked }
namespace Rows
def none {H : Type} : Left H := { results := [], args := [] }

/-- 'headgatelaw07.LruChanges': WHATEVER THE INPUT: true; the input reads as it did. -/
def lruChangesSpec : ChangeSpec := { name := "lruChanges", fn := fun _ => fun
  | [d1, d2, d3] => { results := [.lit (.bool true)], args := [d1, d2, d3] }
  | _ => none }
def lruChangesRow : OpenClaim := { program := "ytjilfijpepbfeaa", sum := "bb10665353315b08654384a4117759e60b7f323e9e3cca447f81ad0dc0c94210", func := "headgate/headgatelaw07.LruChanges", spec := "lruChanges", inPlace := ["slices.overlaps[int]"], apart := false }
def LruChangesSaid : Prop := lruChangesRow.holds Try.pinned (OpenSpec.ofChange lruChangesSpec)

/-- ITS FALSE NEIGHBOUR: 'it returns false'. Refute it at one input. -/
def lruChangesWrong : ChangeSpec := { name := "lruChanges", fn := fun _ => fun
  | [d1, d2, d3] => { results := [.lit (.bool false)], args := [d1, d2, d3] }
  | _ => none }
def LruChangesWrongFalsely : Prop := lruChangesRow.holds Try.pinned (OpenSpec.ofChange lruChangesWrong)

/-- 'headgatelaw07.LruUndo': WHATEVER THE INPUT: true; the input reads as it did. -/
def lruUndoSpec : ChangeSpec := { name := "lruUndo", fn := fun _ => fun
  | [d1, d2] => { results := [.lit (.bool true)], args := [d1, d2] }
  | _ => none }
def lruUndoRow : OpenClaim := { program := "ytjilfijpepbfeaa", sum := "bb10665353315b08654384a4117759e60b7f323e9e3cca447f81ad0dc0c94210", func := "headgate/headgatelaw07.LruUndo", spec := "lruUndo", inPlace := ["slices.overlaps[int]"], apart := false }
def LruUndoSaid : Prop := lruUndoRow.holds Try.pinned (OpenSpec.ofChange lruUndoSpec)

/-- ITS FALSE NEIGHBOUR: 'it returns false'. Refute it at one input. -/
def lruUndoWrong : ChangeSpec := { name := "lruUndo", fn := fun _ => fun
  | [d1, d2] => { results := [.lit (.bool false)], args := [d1, d2] }
  | _ => none }
def LruUndoWrongFalsely : Prop := lruUndoRow.holds Try.pinned (OpenSpec.ofChange lruUndoWrong)

/-- 'headgatelaw07.LruMoves': WHATEVER THE INPUT: true; the input reads as it did. -/
def lruMovesSpec : ChangeSpec := { name := "lruMoves", fn := fun _ => fun
  | [d] => { results := [.lit (.bool true)], args := [d] }
  | _ => none }
def lruMovesRow : OpenClaim := { program := "ytjilfijpepbfeaa", sum := "bb10665353315b08654384a4117759e60b7f323e9e3cca447f81ad0dc0c94210", func := "headgate/headgatelaw07.LruMoves", spec := "lruMoves", inPlace := ["slices.overlaps[int]"], apart := false }
def LruMovesSaid : Prop := lruMovesRow.holds Try.pinned (OpenSpec.ofChange lruMovesSpec)

/-- ITS FALSE NEIGHBOUR: 'it returns false'. Refute it at one input. -/
def lruMovesWrong : ChangeSpec := { name := "lruMoves", fn := fun _ => fun
  | [d] => { results := [.lit (.bool false)], args := [d] }
  | _ => none }
def LruMovesWrongFalsely : Prop := lruMovesRow.holds Try.pinned (OpenSpec.ofChange lruMovesWrong)

/-- 'headgatelaw07.LruOrder': WHATEVER THE INPUT: true; the input reads as it did. -/
def lruOrderSpec : ChangeSpec := { name := "lruOrder", fn := fun _ => fun
  | [d] => { results := [.lit (.bool true)], args := [d] }
  | _ => none }
def lruOrderRow : OpenClaim := { program := "ytjilfijpepbfeaa", sum := "bb10665353315b08654384a4117759e60b7f323e9e3cca447f81ad0dc0c94210", func := "headgate/headgatelaw07.LruOrder", spec := "lruOrder", inPlace := ["slices.overlaps[int]"], apart := false }
def LruOrderSaid : Prop := lruOrderRow.holds Try.pinned (OpenSpec.ofChange lruOrderSpec)

/-- ITS FALSE NEIGHBOUR: 'it returns false'. Refute it at one input. -/
def lruOrderWrong : ChangeSpec := { name := "lruOrder", fn := fun _ => fun
  | [d] => { results := [.lit (.bool false)], args := [d] }
  | _ => none }
def LruOrderWrongFalsely : Prop := lruOrderRow.holds Try.pinned (OpenSpec.ofChange lruOrderWrong)

/-- 'headgatelaw07.LruTurns': WHATEVER THE INPUT: true; the input reads as it did. -/
def lruTurnsSpec : ChangeSpec := { name := "lruTurns", fn := fun _ => fun
  | [d] => { results := [.lit (.bool true)], args := [d] }
  | _ => none }
def lruTurnsRow : OpenClaim := { program := "ytjilfijpepbfeaa", sum := "bb10665353315b08654384a4117759e60b7f323e9e3cca447f81ad0dc0c94210", func := "headgate/headgatelaw07.LruTurns", spec := "lruTurns", inPlace := ["slices.overlaps[int]"], apart := false }
def LruTurnsSaid : Prop := lruTurnsRow.holds Try.pinned (OpenSpec.ofChange lruTurnsSpec)

/-- ITS FALSE NEIGHBOUR: 'it returns false'. Refute it at one input. -/
def lruTurnsWrong : ChangeSpec := { name := "lruTurns", fn := fun _ => fun
  | [d] => { results := [.lit (.bool false)], args := [d] }
  | _ => none }
def LruTurnsWrongFalsely : Prop := lruTurnsRow.holds Try.pinned (OpenSpec.ofChange lruTurnsWrong)

/-- 'headgatelaw07.LruSteps': WHATEVER THE INPUT: true; the input reads as it did. -/
def lruStepsSpec : ChangeSpec := { name := "lruSteps", fn := fun _ => fun
  | [d1, d2] => { results := [.lit (.bool true)], args := [d1, d2] }
  | _ => none }
def lruStepsRow : OpenClaim := { program := "ytjilfijpepbfeaa", sum := "bb10665353315b08654384a4117759e60b7f323e9e3cca447f81ad0dc0c94210", func := "headgate/headgatelaw07.LruSteps", spec := "lruSteps", inPlace := ["slices.overlaps[int]"], apart := false }
def LruStepsSaid : Prop := lruStepsRow.holds Try.pinned (OpenSpec.ofChange lruStepsSpec)

/-- ITS FALSE NEIGHBOUR: 'it returns false'. Refute it at one input. -/
def lruStepsWrong : ChangeSpec := { name := "lruSteps", fn := fun _ => fun
  | [d1, d2] => { results := [.lit (.bool false)], args := [d1, d2] }
  | _ => none }
def LruStepsWrongFalsely : Prop := lruStepsRow.holds Try.pinned (OpenSpec.ofChange lruStepsWrong)

/-- 'headgatelaw07.LruKnown': WHATEVER THE INPUT: true; the input reads as it did. -/
def lruKnownSpec : ChangeSpec := { name := "lruKnown", fn := fun _ => fun
  | [] => { results := [.lit (.bool true)], args := [] }
  | _ => none }
def lruKnownRow : OpenClaim := { program := "ytjilfijpepbfeaa", sum := "bb10665353315b08654384a4117759e60b7f323e9e3cca447f81ad0dc0c94210", func := "headgate/headgatelaw07.LruKnown", spec := "lruKnown", inPlace := ["slices.overlaps[int]"], apart := false }
def LruKnownSaid : Prop := lruKnownRow.holds Try.pinned (OpenSpec.ofChange lruKnownSpec)

/-- ITS FALSE NEIGHBOUR: 'it returns false'. Refute it at one input. -/
def lruKnownWrong : ChangeSpec := { name := "lruKnown", fn := fun _ => fun
  | [] => { results := [.lit (.bool false)], args := [] }
  | _ => none }
def LruKnownWrongFalsely : Prop := lruKnownRow.holds Try.pinned (OpenSpec.ofChange lruKnownWrong)

/- THE SECOND FORM. 'bulk': how many values and letters a reading holds, each counted each time it is reached (what is shared counts as often as it is met; a slice's spare places count too). A statement '..UptoSaid' is the law's where the arguments, and the package variables that the reading takes, are together of bulk at most 1048576: NARROWER than '..Said'. Prove '..Said' where nothing that the law and all that it calls make is longer than what came in: it says more and counts as full. Else prove '..UptoSaid'. A law counts once. -/
mutual
def uptoBulk {H : Type} : DataW H → Nat
  | .lit (.string bytes) => bytes.length + 1
  | .lit _ => 1
  | .nil => 1
  | .ptr d => uptoBulk d + 1
  | .slice elems spare => uptoBulkAll elems + uptoBulkAll spare + 1
  | .agg parts => uptoBulkAll parts + 1
  | .iface _ d => uptoBulk d + 1
  | .map entries => uptoBulkEntries entries + 1
  | .held _ => 1
def uptoBulkAll {H : Type} : List (DataW H) → Nat
  | [] => 0
  | d :: r => uptoBulk d + uptoBulkAll r
def uptoBulkEntries {H : Type} : List (Lit × DataW H) → Nat
  | [] => 0
  | x :: r => uptoBulkEntry x + uptoBulkEntries r
def uptoBulkEntry {H : Type} : Lit × DataW H → Nat
  | (.string bytes, d) => bytes.length + uptoBulk d + 1
  | (_, d) => uptoBulk d + 1
 end
def uptoSmall : (H : Type) → List (DataW H) → Bool := fun _ ds => decide (uptoBulkAll ds ≤ 1048576)
def OpenSpec.upto (s : _root_.Go.ChangeSpec) : _root_.Go.OpenSpec := { _root_.Go.OpenSpec.ofChange s with cond := some uptoSmall }

/-- 'headgatelaw07.LruChanges', WHERE WHAT IT READS IS OF BULK AT MOST 1048576: true; the input reads as it did. -/
def lruChangesUptoRow : OpenClaim := { program := "ytjilfijpepbfeaa", sum := "bb10665353315b08654384a4117759e60b7f323e9e3cca447f81ad0dc0c94210", func := "headgate/headgatelaw07.LruChanges", spec := "lruChanges", inPlace := ["slices.overlaps[int]"], apart := false, narrowed := true }
def LruChangesUptoSaid : Prop := lruChangesUptoRow.holds Try.pinned (OpenSpec.upto lruChangesSpec)

/-- 'headgatelaw07.LruUndo', WHERE WHAT IT READS IS OF BULK AT MOST 1048576: true; the input reads as it did. -/
def lruUndoUptoRow : OpenClaim := { program := "ytjilfijpepbfeaa", sum := "bb10665353315b08654384a4117759e60b7f323e9e3cca447f81ad0dc0c94210", func := "headgate/headgatelaw07.LruUndo", spec := "lruUndo", inPlace := ["slices.overlaps[int]"], apart := false, narrowed := true }
def LruUndoUptoSaid : Prop := lruUndoUptoRow.holds Try.pinned (OpenSpec.upto lruUndoSpec)

/-- 'headgatelaw07.LruMoves', WHERE WHAT IT READS IS OF BULK AT MOST 1048576: true; the input reads as it did. -/
def lruMovesUptoRow : OpenClaim := { program := "ytjilfijpepbfeaa", sum := "bb10665353315b08654384a4117759e60b7f323e9e3cca447f81ad0dc0c94210", func := "headgate/headgatelaw07.LruMoves", spec := "lruMoves", inPlace := ["slices.overlaps[int]"], apart := false, narrowed := true }
def LruMovesUptoSaid : Prop := lruMovesUptoRow.holds Try.pinned (OpenSpec.upto lruMovesSpec)

/-- 'headgatelaw07.LruOrder', WHERE WHAT IT READS IS OF BULK AT MOST 1048576: true; the input reads as it did. -/
def lruOrderUptoRow : OpenClaim := { program := "ytjilfijpepbfeaa", sum := "bb10665353315b08654384a4117759e60b7f323e9e3cca447f81ad0dc0c94210", func := "headgate/headgatelaw07.LruOrder", spec := "lruOrder", inPlace := ["slices.overlaps[int]"], apart := false, narrowed := true }
def LruOrderUptoSaid : Prop := lruOrderUptoRow.holds Try.pinned (OpenSpec.upto lruOrderSpec)

/-- 'headgatelaw07.LruTurns', WHERE WHAT IT READS IS OF BULK AT MOST 1048576: true; the input reads as it did. -/
def lruTurnsUptoRow : OpenClaim := { program := "ytjilfijpepbfeaa", sum := "bb10665353315b08654384a4117759e60b7f323e9e3cca447f81ad0dc0c94210", func := "headgate/headgatelaw07.LruTurns", spec := "lruTurns", inPlace := ["slices.overlaps[int]"], apart := false, narrowed := true }
def LruTurnsUptoSaid : Prop := lruTurnsUptoRow.holds Try.pinned (OpenSpec.upto lruTurnsSpec)

/-- 'headgatelaw07.LruSteps', WHERE WHAT IT READS IS OF BULK AT MOST 1048576: true; the input reads as it did. -/
def lruStepsUptoRow : OpenClaim := { program := "ytjilfijpepbfeaa", sum := "bb10665353315b08654384a4117759e60b7f323e9e3cca447f81ad0dc0c94210", func := "headgate/headgatelaw07.LruSteps", spec := "lruSteps", inPlace := ["slices.overlaps[int]"], apart := false, narrowed := true }
def LruStepsUptoSaid : Prop := lruStepsUptoRow.holds Try.pinned (OpenSpec.upto lruStepsSpec)

/-- 'headgatelaw07.LruKnown', WHERE WHAT IT READS IS OF BULK AT MOST 1048576: true; the input reads as it did. -/
def lruKnownUptoRow : OpenClaim := { program := "ytjilfijpepbfeaa", sum := "bb10665353315b08654384a4117759e60b7f323e9e3cca447f81ad0dc0c94210", func := "headgate/headgatelaw07.LruKnown", spec := "lruKnown", inPlace := ["slices.overlaps[int]"], apart := false, narrowed := true }
def LruKnownUptoSaid : Prop := lruKnownUptoRow.holds Try.pinned (OpenSpec.upto lruKnownSpec)

end Rows
end Go.Proofs.Ytjilfijpepbfeaa
