/-
  No cell of these rows narrows 'for every input' (looked for: loops, veiled, ifaces, maps, wideKeys, modest, calm, conditions, laid).
  DERIVED. THE GIVEN ROWS OF THIS SEAT. 7 by the template 'for every input the law returns true; each argument reads behind the call as it read before'; 0 by the template 'total and deterministic' (their statements: YtbeddhamnefpiaaTotals.lean).
  GIVEN WITH THE SEED: the statements are not yours to turn. If you find one false, say at which input.
  Laid BY PROGRAM, IN A SANDBOX (cutbox-rows.mjs): the forced cells as the released guide's own fill.sh prints them over the translation d09a32de50001c34… (all of the seat's roots in one cut). By AI agents, Wed Nov 11 2026. No macro, syntax, notation, axiom, sorry.
-/
import Derived.Test.YtbeddhamnefpiaaChecked
import GoSem.Claim
import GoSem.ClaimJoined
import GoSem.ClaimMapViews
import Derived.JoinedTies
import Derived.KernelRfl
namespace Go.Proofs.Ytbeddhamnefpiaa
/- THE CELL 'sum', in the pinned program and in every row, IS THE sha256 OF THE DUMP (.gsa) THAT YtbeddhamnefpiaaProg.lean LOADS. Nothing in Lean hashes anything: it is a label: what it is worth is what the hold of that sum in a sandbox is worth. -/
noncomputable def Try.pinned : Pinned := { name := "ytbeddhamnefpiaa", sum := "d09a32de50001c341f1b7e3c96df4bb0a16006646017aca4479d256442a61d20", checked := Try.checked }
namespace Rows
def none {H : Type} : Left H := { results := [], args := [] }

/-- 'headgatelaw25.RmapChecks': WHATEVER THE INPUT: true; the input reads as it did. -/
def rmapChecksSpec : ChangeSpec := { name := "rmapChecks", fn := fun _ => fun
  | [d1, d2, d3] => { results := [.lit (.bool true)], args := [d1, d2, d3] }
  | _ => none }
def rmapChecksRow : OpenClaim := { program := "ytbeddhamnefpiaa", sum := "d09a32de50001c341f1b7e3c96df4bb0a16006646017aca4479d256442a61d20", func := "headgate/headgatelaw25.RmapChecks", spec := "rmapChecks", unfollowed := true, recurses := true, plainKeys := false, apart := false }
def RmapChecksSaid : Prop := rmapChecksRow.holds Try.pinned (OpenSpec.ofChange rmapChecksSpec)

/-- ITS FALSE NEIGHBOUR: 'it returns false'. Refute it at one input. -/
def rmapChecksWrong : ChangeSpec := { name := "rmapChecks", fn := fun _ => fun
  | [d1, d2, d3] => { results := [.lit (.bool false)], args := [d1, d2, d3] }
  | _ => none }
def RmapChecksWrongFalsely : Prop := rmapChecksRow.holds Try.pinned (OpenSpec.ofChange rmapChecksWrong)

/-- 'headgatelaw25.RmapProcs': WHATEVER THE INPUT: true; the input reads as it did. -/
def rmapProcsSpec : ChangeSpec := { name := "rmapProcs", fn := fun _ => fun
  | [d1, d2, d3] => { results := [.lit (.bool true)], args := [d1, d2, d3] }
  | _ => none }
def rmapProcsRow : OpenClaim := { program := "ytbeddhamnefpiaa", sum := "d09a32de50001c341f1b7e3c96df4bb0a16006646017aca4479d256442a61d20", func := "headgate/headgatelaw25.RmapProcs", spec := "rmapProcs", unfollowed := true, recurses := true, plainKeys := false, apart := false }
def RmapProcsSaid : Prop := rmapProcsRow.holds Try.pinned (OpenSpec.ofChange rmapProcsSpec)

/-- ITS FALSE NEIGHBOUR: 'it returns false'. Refute it at one input. -/
def rmapProcsWrong : ChangeSpec := { name := "rmapProcs", fn := fun _ => fun
  | [d1, d2, d3] => { results := [.lit (.bool false)], args := [d1, d2, d3] }
  | _ => none }
def RmapProcsWrongFalsely : Prop := rmapProcsRow.holds Try.pinned (OpenSpec.ofChange rmapProcsWrong)

/-- 'headgatelaw25.RmapChanges': WHATEVER THE INPUT: true; the input reads as it did. -/
def rmapChangesSpec : ChangeSpec := { name := "rmapChanges", fn := fun _ => fun
  | [d1, d2, d3] => { results := [.lit (.bool true)], args := [d1, d2, d3] }
  | _ => none }
def rmapChangesRow : OpenClaim := { program := "ytbeddhamnefpiaa", sum := "d09a32de50001c341f1b7e3c96df4bb0a16006646017aca4479d256442a61d20", func := "headgate/headgatelaw25.RmapChanges", spec := "rmapChanges", unfollowed := true, recurses := true, plainKeys := false, apart := false }
def RmapChangesSaid : Prop := rmapChangesRow.holds Try.pinned (OpenSpec.ofChange rmapChangesSpec)

/-- ITS FALSE NEIGHBOUR: 'it returns false'. Refute it at one input. -/
def rmapChangesWrong : ChangeSpec := { name := "rmapChanges", fn := fun _ => fun
  | [d1, d2, d3] => { results := [.lit (.bool false)], args := [d1, d2, d3] }
  | _ => none }
def RmapChangesWrongFalsely : Prop := rmapChangesRow.holds Try.pinned (OpenSpec.ofChange rmapChangesWrong)

/-- 'headgatelaw25.RmapKnown': WHATEVER THE INPUT: true; the input reads as it did. -/
def rmapKnownSpec : ChangeSpec := { name := "rmapKnown", fn := fun _ => fun
  | [] => { results := [.lit (.bool true)], args := [] }
  | _ => none }
def rmapKnownRow : OpenClaim := { program := "ytbeddhamnefpiaa", sum := "d09a32de50001c341f1b7e3c96df4bb0a16006646017aca4479d256442a61d20", func := "headgate/headgatelaw25.RmapKnown", spec := "rmapKnown", unfollowed := true, recurses := true, plainKeys := false, apart := false }
def RmapKnownSaid : Prop := rmapKnownRow.holds Try.pinned (OpenSpec.ofChange rmapKnownSpec)

/-- ITS FALSE NEIGHBOUR: 'it returns false'. Refute it at one input. -/
def rmapKnownWrong : ChangeSpec := { name := "rmapKnown", fn := fun _ => fun
  | [] => { results := [.lit (.bool false)], args := [] }
  | _ => none }
def RmapKnownWrongFalsely : Prop := rmapKnownRow.holds Try.pinned (OpenSpec.ofChange rmapKnownWrong)

/-- 'headgatelaw25.RmapAdds': WHATEVER THE INPUT: true; the input reads as it did. -/
def rmapAddsSpec : ChangeSpec := { name := "rmapAdds", fn := fun _ => fun
  | [d1, d2] => { results := [.lit (.bool true)], args := [d1, d2] }
  | _ => none }
def rmapAddsRow : OpenClaim := { program := "ytbeddhamnefpiaa", sum := "d09a32de50001c341f1b7e3c96df4bb0a16006646017aca4479d256442a61d20", func := "headgate/headgatelaw25.RmapAdds", spec := "rmapAdds", unfollowed := true, recurses := true, plainKeys := false, apart := false }
def RmapAddsSaid : Prop := rmapAddsRow.holds Try.pinned (OpenSpec.ofChange rmapAddsSpec)

/-- ITS FALSE NEIGHBOUR: 'it returns false'. Refute it at one input. -/
def rmapAddsWrong : ChangeSpec := { name := "rmapAdds", fn := fun _ => fun
  | [d1, d2] => { results := [.lit (.bool false)], args := [d1, d2] }
  | _ => none }
def RmapAddsWrongFalsely : Prop := rmapAddsRow.holds Try.pinned (OpenSpec.ofChange rmapAddsWrong)

/-- 'headgatelaw25.RmapSums': WHATEVER THE INPUT: true; the input reads as it did. -/
def rmapSumsSpec : ChangeSpec := { name := "rmapSums", fn := fun _ => fun
  | [d] => { results := [.lit (.bool true)], args := [d] }
  | _ => none }
def rmapSumsRow : OpenClaim := { program := "ytbeddhamnefpiaa", sum := "d09a32de50001c341f1b7e3c96df4bb0a16006646017aca4479d256442a61d20", func := "headgate/headgatelaw25.RmapSums", spec := "rmapSums", unfollowed := true, recurses := true, plainKeys := false, apart := false }
def RmapSumsSaid : Prop := rmapSumsRow.holds Try.pinned (OpenSpec.ofChange rmapSumsSpec)

/-- ITS FALSE NEIGHBOUR: 'it returns false'. Refute it at one input. -/
def rmapSumsWrong : ChangeSpec := { name := "rmapSums", fn := fun _ => fun
  | [d] => { results := [.lit (.bool false)], args := [d] }
  | _ => none }
def RmapSumsWrongFalsely : Prop := rmapSumsRow.holds Try.pinned (OpenSpec.ofChange rmapSumsWrong)

/-- 'headgatelaw25.RmapForks': WHATEVER THE INPUT: true; the input reads as it did. -/
def rmapForksSpec : ChangeSpec := { name := "rmapForks", fn := fun _ => fun
  | [d1, d2] => { results := [.lit (.bool true)], args := [d1, d2] }
  | _ => none }
def rmapForksRow : OpenClaim := { program := "ytbeddhamnefpiaa", sum := "d09a32de50001c341f1b7e3c96df4bb0a16006646017aca4479d256442a61d20", func := "headgate/headgatelaw25.RmapForks", spec := "rmapForks", unfollowed := true, recurses := true, plainKeys := false, apart := false }
def RmapForksSaid : Prop := rmapForksRow.holds Try.pinned (OpenSpec.ofChange rmapForksSpec)

/-- ITS FALSE NEIGHBOUR: 'it returns false'. Refute it at one input. -/
def rmapForksWrong : ChangeSpec := { name := "rmapForks", fn := fun _ => fun
  | [d1, d2] => { results := [.lit (.bool false)], args := [d1, d2] }
  | _ => none }
def RmapForksWrongFalsely : Prop := rmapForksRow.holds Try.pinned (OpenSpec.ofChange rmapForksWrong)

/- THE SECOND FORM. 'bulk': how many values and letters a reading holds, each counted each time it is reached (what is shared counts as often as it is met; a slice's spare places count too). A statement '..UptoSaid' is the law's where the arguments, and the package variables that the reading takes, are together of bulk at most 1048576: NARROWER than '..Said'. Prove '..Said' where nothing that the law and all that it calls make is longer than what came in: it says more and counts as full. Else prove '..UptoSaid'. A law counts once. -/
mutual
def uptoBulk {H : Type} : DataW H → Nat
  | .lit (.string bytes) => bytes.length + 1
  | .lit _ => 1
  | .nil => 1
  | .ptr d => uptoBulk d + 1
  | .slice elems spare => uptoBulkAll elems + uptoBulkAll spare + 1
  | .agg parts => uptoBulkAll parts + 1
  | .iface _ d => uptoBulk d + 1
  | .map entries => uptoBulkEntries entries + 1
  | .held _ => 1
def uptoBulkAll {H : Type} : List (DataW H) → Nat
  | [] => 0
  | d :: r => uptoBulk d + uptoBulkAll r
def uptoBulkEntries {H : Type} : List (Lit × DataW H) → Nat
  | [] => 0
  | x :: r => uptoBulkEntry x + uptoBulkEntries r
def uptoBulkEntry {H : Type} : Lit × DataW H → Nat
  | (.string bytes, d) => bytes.length + uptoBulk d + 1
  | (_, d) => uptoBulk d + 1
 end
def uptoSmall : (H : Type) → List (DataW H) → Bool := fun _ ds => decide (uptoBulkAll ds ≤ 1048576)
def OpenSpec.upto (s : _root_.Go.ChangeSpec) : _root_.Go.OpenSpec := { _root_.Go.OpenSpec.ofChange s with cond := some uptoSmall }

/-- 'headgatelaw25.RmapChecks', WHERE WHAT IT READS IS OF BULK AT MOST 1048576: true; the input reads as it did. -/
def rmapChecksUptoRow : OpenClaim := { program := "ytbeddhamnefpiaa", sum := "d09a32de50001c341f1b7e3c96df4bb0a16006646017aca4479d256442a61d20", func := "headgate/headgatelaw25.RmapChecks", spec := "rmapChecks", unfollowed := true, recurses := true, plainKeys := false, apart := false, narrowed := true }
def RmapChecksUptoSaid : Prop := rmapChecksUptoRow.holds Try.pinned (OpenSpec.upto rmapChecksSpec)

/-- 'headgatelaw25.RmapProcs', WHERE WHAT IT READS IS OF BULK AT MOST 1048576: true; the input reads as it did. -/
def rmapProcsUptoRow : OpenClaim := { program := "ytbeddhamnefpiaa", sum := "d09a32de50001c341f1b7e3c96df4bb0a16006646017aca4479d256442a61d20", func := "headgate/headgatelaw25.RmapProcs", spec := "rmapProcs", unfollowed := true, recurses := true, plainKeys := false, apart := false, narrowed := true }
def RmapProcsUptoSaid : Prop := rmapProcsUptoRow.holds Try.pinned (OpenSpec.upto rmapProcsSpec)

/-- 'headgatelaw25.RmapChanges', WHERE WHAT IT READS IS OF BULK AT MOST 1048576: true; the input reads as it did. -/
def rmapChangesUptoRow : OpenClaim := { program := "ytbeddhamnefpiaa", sum := "d09a32de50001c341f1b7e3c96df4bb0a16006646017aca4479d256442a61d20", func := "headgate/headgatelaw25.RmapChanges", spec := "rmapChanges", unfollowed := true, recurses := true, plainKeys := false, apart := false, narrowed := true }
def RmapChangesUptoSaid : Prop := rmapChangesUptoRow.holds Try.pinned (OpenSpec.upto rmapChangesSpec)

/-- 'headgatelaw25.RmapKnown', WHERE WHAT IT READS IS OF BULK AT MOST 1048576: true; the input reads as it did. -/
def rmapKnownUptoRow : OpenClaim := { program := "ytbeddhamnefpiaa", sum := "d09a32de50001c341f1b7e3c96df4bb0a16006646017aca4479d256442a61d20", func := "headgate/headgatelaw25.RmapKnown", spec := "rmapKnown", unfollowed := true, recurses := true, plainKeys := false, apart := false, narrowed := true }
def RmapKnownUptoSaid : Prop := rmapKnownUptoRow.holds Try.pinned (OpenSpec.upto rmapKnownSpec)

/-- 'headgatelaw25.RmapAdds', WHERE WHAT IT READS IS OF BULK AT MOST 1048576: true; the input reads as it did. -/
def rmapAddsUptoRow : OpenClaim := { program := "ytbeddhamnefpiaa", sum := "d09a32de50001c341f1b7e3c96df4bb0a16006646017aca4479d256442a61d20", func := "headgate/headgatelaw25.RmapAdds", spec := "rmapAdds", unfollowed := true, recurses := true, plainKeys := false, apart := false, narrowed := true }
def RmapAddsUptoSaid : Prop := rmapAddsUptoRow.holds Try.pinned (OpenSpec.upto rmapAddsSpec)

/-- 'headgatelaw25.RmapSums', WHERE WHAT IT READS IS OF BULK AT MOST 1048576: true; the input reads as it did. -/
def rmapSumsUptoRow : OpenClaim := { program := "ytbeddhamnefpiaa", sum := "d09a32de50001c341f1b7e3c96df4bb0a16006646017aca4479d256442a61d20", func := "headgate/headgatelaw25.RmapSums", spec := "rmapSums", unfollowed := true, recurses := true, plainKeys := false, apart := false, narrowed := true }
def RmapSumsUptoSaid : Prop := rmapSumsUptoRow.holds Try.pinned (OpenSpec.upto rmapSumsSpec)

/-- 'headgatelaw25.RmapForks', WHERE WHAT IT READS IS OF BULK AT MOST 1048576: true; the input reads as it did. -/
def rmapForksUptoRow : OpenClaim := { program := "ytbeddhamnefpiaa", sum := "d09a32de50001c341f1b7e3c96df4bb0a16006646017aca4479d256442a61d20", func := "headgate/headgatelaw25.RmapForks", spec := "rmapForks", unfollowed := true, recurses := true, plainKeys := false, apart := false, narrowed := true }
def RmapForksUptoSaid : Prop := rmapForksUptoRow.holds Try.pinned (OpenSpec.upto rmapForksSpec)

end Rows
end Go.Proofs.Ytbeddhamnefpiaa
