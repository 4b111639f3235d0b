/-
  No cell of these rows narrows 'for every input' (looked for: loops, veiled, ifaces, maps, wideKeys, modest, calm, conditions, laid).
  DERIVED. THE GIVEN ROWS OF THIS SEAT. 6 by the template 'for every input the law returns true; each argument reads behind the call as it read before'; 0 by the template 'total and deterministic' (their statements: YtdkangjjiikdiaaTotals.lean).
  GIVEN WITH THE SEED: the statements are not yours to turn. If you find one false, say at which input.
  Laid BY PROGRAM, IN A SANDBOX (cutbox-rows.mjs): the forced cells as the released guide's own fill.sh prints them over the translation e30a5cb2fd2a1969… (all of the seat's roots in one cut). By AI agents, Wed Nov 11 2026. No macro, syntax, notation, axiom, sorry.
-/
import Derived.Test.YtdkangjjiikdiaaChecked
import GoSem.Claim
import GoSem.ClaimJoined
import GoSem.ClaimMapViews
import Derived.JoinedTies
import Derived.KernelRfl
namespace Go.Proofs.Ytdkangjjiikdiaa
/- THE CELL 'sum', in the pinned program and in every row, IS THE sha256 OF THE DUMP (.gsa) THAT YtdkangjjiikdiaaProg.lean LOADS. Nothing in Lean hashes anything: it is a label: what it is worth is what the hold of that sum in a sandbox is worth. -/
noncomputable def Try.pinned : Pinned := { name := "ytdkangjjiikdiaa", sum := "e30a5cb2fd2a1969bae58a808d8a59bc9249f3b640a31fc51fe9442be0cc9ff5", checked := Try.checked }
namespace Rows
def none {H : Type} : Left H := { results := [], args := [] }

/-- 'headgatelaw10.ZoneTakes': WHATEVER THE INPUT: true; the input reads as it did. -/
def zoneTakesSpec : ChangeSpec := { name := "zoneTakes", fn := fun _ => fun
  | [d1, d2, d3, d4, d5] => { results := [.lit (.bool true)], args := [d1, d2, d3, d4, d5] }
  | _ => none }
def zoneTakesRow : OpenClaim := { program := "ytdkangjjiikdiaa", sum := "e30a5cb2fd2a1969bae58a808d8a59bc9249f3b640a31fc51fe9442be0cc9ff5", func := "headgate/headgatelaw10.ZoneTakes", spec := "zoneTakes", unfollowed := true, recurses := true, apart := false }
def ZoneTakesSaid : Prop := zoneTakesRow.holds Try.pinned (OpenSpec.ofChange zoneTakesSpec)

/-- ITS FALSE NEIGHBOUR: 'it returns false'. Refute it at one input. -/
def zoneTakesWrong : ChangeSpec := { name := "zoneTakes", fn := fun _ => fun
  | [d1, d2, d3, d4, d5] => { results := [.lit (.bool false)], args := [d1, d2, d3, d4, d5] }
  | _ => none }
def ZoneTakesWrongFalsely : Prop := zoneTakesRow.holds Try.pinned (OpenSpec.ofChange zoneTakesWrong)

/-- 'headgatelaw10.ZoneLevels': WHATEVER THE INPUT: true; the input reads as it did. -/
def zoneLevelsSpec : ChangeSpec := { name := "zoneLevels", fn := fun _ => fun
  | [d1, d2, d3] => { results := [.lit (.bool true)], args := [d1, d2, d3] }
  | _ => none }
def zoneLevelsRow : OpenClaim := { program := "ytdkangjjiikdiaa", sum := "e30a5cb2fd2a1969bae58a808d8a59bc9249f3b640a31fc51fe9442be0cc9ff5", func := "headgate/headgatelaw10.ZoneLevels", spec := "zoneLevels", unfollowed := true, recurses := true, apart := false }
def ZoneLevelsSaid : Prop := zoneLevelsRow.holds Try.pinned (OpenSpec.ofChange zoneLevelsSpec)

/-- ITS FALSE NEIGHBOUR: 'it returns false'. Refute it at one input. -/
def zoneLevelsWrong : ChangeSpec := { name := "zoneLevels", fn := fun _ => fun
  | [d1, d2, d3] => { results := [.lit (.bool false)], args := [d1, d2, d3] }
  | _ => none }
def ZoneLevelsWrongFalsely : Prop := zoneLevelsRow.holds Try.pinned (OpenSpec.ofChange zoneLevelsWrong)

/-- 'headgatelaw10.ZoneKnown': WHATEVER THE INPUT: true; the input reads as it did. -/
def zoneKnownSpec : ChangeSpec := { name := "zoneKnown", fn := fun _ => fun
  | [] => { results := [.lit (.bool true)], args := [] }
  | _ => none }
def zoneKnownRow : OpenClaim := { program := "ytdkangjjiikdiaa", sum := "e30a5cb2fd2a1969bae58a808d8a59bc9249f3b640a31fc51fe9442be0cc9ff5", func := "headgate/headgatelaw10.ZoneKnown", spec := "zoneKnown", unfollowed := true, recurses := true, apart := false }
def ZoneKnownSaid : Prop := zoneKnownRow.holds Try.pinned (OpenSpec.ofChange zoneKnownSpec)

/-- ITS FALSE NEIGHBOUR: 'it returns false'. Refute it at one input. -/
def zoneKnownWrong : ChangeSpec := { name := "zoneKnown", fn := fun _ => fun
  | [] => { results := [.lit (.bool false)], args := [] }
  | _ => none }
def ZoneKnownWrongFalsely : Prop := zoneKnownRow.holds Try.pinned (OpenSpec.ofChange zoneKnownWrong)

/-- 'headgatelaw10.ZoneSums': WHATEVER THE INPUT: true; the input reads as it did. -/
def zoneSumsSpec : ChangeSpec := { name := "zoneSums", fn := fun _ => fun
  | [d1, d2] => { results := [.lit (.bool true)], args := [d1, d2] }
  | _ => none }
def zoneSumsRow : OpenClaim := { program := "ytdkangjjiikdiaa", sum := "e30a5cb2fd2a1969bae58a808d8a59bc9249f3b640a31fc51fe9442be0cc9ff5", func := "headgate/headgatelaw10.ZoneSums", spec := "zoneSums", unfollowed := true, recurses := true, apart := false }
def ZoneSumsSaid : Prop := zoneSumsRow.holds Try.pinned (OpenSpec.ofChange zoneSumsSpec)

/-- ITS FALSE NEIGHBOUR: 'it returns false'. Refute it at one input. -/
def zoneSumsWrong : ChangeSpec := { name := "zoneSums", fn := fun _ => fun
  | [d1, d2] => { results := [.lit (.bool false)], args := [d1, d2] }
  | _ => none }
def ZoneSumsWrongFalsely : Prop := zoneSumsRow.holds Try.pinned (OpenSpec.ofChange zoneSumsWrong)

/-- 'headgatelaw10.ZoneRanks': WHATEVER THE INPUT: true; the input reads as it did. -/
def zoneRanksSpec : ChangeSpec := { name := "zoneRanks", fn := fun _ => fun
  | [d1, d2] => { results := [.lit (.bool true)], args := [d1, d2] }
  | _ => none }
def zoneRanksRow : OpenClaim := { program := "ytdkangjjiikdiaa", sum := "e30a5cb2fd2a1969bae58a808d8a59bc9249f3b640a31fc51fe9442be0cc9ff5", func := "headgate/headgatelaw10.ZoneRanks", spec := "zoneRanks", unfollowed := true, recurses := true, apart := false }
def ZoneRanksSaid : Prop := zoneRanksRow.holds Try.pinned (OpenSpec.ofChange zoneRanksSpec)

/-- ITS FALSE NEIGHBOUR: 'it returns false'. Refute it at one input. -/
def zoneRanksWrong : ChangeSpec := { name := "zoneRanks", fn := fun _ => fun
  | [d1, d2] => { results := [.lit (.bool false)], args := [d1, d2] }
  | _ => none }
def ZoneRanksWrongFalsely : Prop := zoneRanksRow.holds Try.pinned (OpenSpec.ofChange zoneRanksWrong)

/-- 'headgatelaw10.ZoneFits': WHATEVER THE INPUT: true; the input reads as it did. -/
def zoneFitsSpec : ChangeSpec := { name := "zoneFits", fn := fun _ => fun
  | [d] => { results := [.lit (.bool true)], args := [d] }
  | _ => none }
def zoneFitsRow : OpenClaim := { program := "ytdkangjjiikdiaa", sum := "e30a5cb2fd2a1969bae58a808d8a59bc9249f3b640a31fc51fe9442be0cc9ff5", func := "headgate/headgatelaw10.ZoneFits", spec := "zoneFits", unfollowed := true, recurses := true, apart := false }
def ZoneFitsSaid : Prop := zoneFitsRow.holds Try.pinned (OpenSpec.ofChange zoneFitsSpec)

/-- ITS FALSE NEIGHBOUR: 'it returns false'. Refute it at one input. -/
def zoneFitsWrong : ChangeSpec := { name := "zoneFits", fn := fun _ => fun
  | [d] => { results := [.lit (.bool false)], args := [d] }
  | _ => none }
def ZoneFitsWrongFalsely : Prop := zoneFitsRow.holds Try.pinned (OpenSpec.ofChange zoneFitsWrong)

/- THE SECOND FORM. 'bulk': how many values and letters a reading holds, each counted each time it is reached (what is shared counts as often as it is met; a slice's spare places count too). A statement '..UptoSaid' is the law's where the arguments, and the package variables that the reading takes, are together of bulk at most 1048576: NARROWER than '..Said'. Prove '..Said' where nothing that the law and all that it calls make is longer than what came in: it says more and counts as full. Else prove '..UptoSaid'. A law counts once. -/
mutual
def uptoBulk {H : Type} : DataW H → Nat
  | .lit (.string bytes) => bytes.length + 1
  | .lit _ => 1
  | .nil => 1
  | .ptr d => uptoBulk d + 1
  | .slice elems spare => uptoBulkAll elems + uptoBulkAll spare + 1
  | .agg parts => uptoBulkAll parts + 1
  | .iface _ d => uptoBulk d + 1
  | .map entries => uptoBulkEntries entries + 1
  | .held _ => 1
def uptoBulkAll {H : Type} : List (DataW H) → Nat
  | [] => 0
  | d :: r => uptoBulk d + uptoBulkAll r
def uptoBulkEntries {H : Type} : List (Lit × DataW H) → Nat
  | [] => 0
  | x :: r => uptoBulkEntry x + uptoBulkEntries r
def uptoBulkEntry {H : Type} : Lit × DataW H → Nat
  | (.string bytes, d) => bytes.length + uptoBulk d + 1
  | (_, d) => uptoBulk d + 1
 end
def uptoSmall : (H : Type) → List (DataW H) → Bool := fun _ ds => decide (uptoBulkAll ds ≤ 1048576)
def OpenSpec.upto (s : _root_.Go.ChangeSpec) : _root_.Go.OpenSpec := { _root_.Go.OpenSpec.ofChange s with cond := some uptoSmall }

/-- 'headgatelaw10.ZoneTakes', WHERE WHAT IT READS IS OF BULK AT MOST 1048576: true; the input reads as it did. -/
def zoneTakesUptoRow : OpenClaim := { program := "ytdkangjjiikdiaa", sum := "e30a5cb2fd2a1969bae58a808d8a59bc9249f3b640a31fc51fe9442be0cc9ff5", func := "headgate/headgatelaw10.ZoneTakes", spec := "zoneTakes", unfollowed := true, recurses := true, apart := false, narrowed := true }
def ZoneTakesUptoSaid : Prop := zoneTakesUptoRow.holds Try.pinned (OpenSpec.upto zoneTakesSpec)

/-- 'headgatelaw10.ZoneLevels', WHERE WHAT IT READS IS OF BULK AT MOST 1048576: true; the input reads as it did. -/
def zoneLevelsUptoRow : OpenClaim := { program := "ytdkangjjiikdiaa", sum := "e30a5cb2fd2a1969bae58a808d8a59bc9249f3b640a31fc51fe9442be0cc9ff5", func := "headgate/headgatelaw10.ZoneLevels", spec := "zoneLevels", unfollowed := true, recurses := true, apart := false, narrowed := true }
def ZoneLevelsUptoSaid : Prop := zoneLevelsUptoRow.holds Try.pinned (OpenSpec.upto zoneLevelsSpec)

/-- 'headgatelaw10.ZoneKnown', WHERE WHAT IT READS IS OF BULK AT MOST 1048576: true; the input reads as it did. -/
def zoneKnownUptoRow : OpenClaim := { program := "ytdkangjjiikdiaa", sum := "e30a5cb2fd2a1969bae58a808d8a59bc9249f3b640a31fc51fe9442be0cc9ff5", func := "headgate/headgatelaw10.ZoneKnown", spec := "zoneKnown", unfollowed := true, recurses := true, apart := false, narrowed := true }
def ZoneKnownUptoSaid : Prop := zoneKnownUptoRow.holds Try.pinned (OpenSpec.upto zoneKnownSpec)

/-- 'headgatelaw10.ZoneSums', WHERE WHAT IT READS IS OF BULK AT MOST 1048576: true; the input reads as it did. -/
def zoneSumsUptoRow : OpenClaim := { program := "ytdkangjjiikdiaa", sum := "e30a5cb2fd2a1969bae58a808d8a59bc9249f3b640a31fc51fe9442be0cc9ff5", func := "headgate/headgatelaw10.ZoneSums", spec := "zoneSums", unfollowed := true, recurses := true, apart := false, narrowed := true }
def ZoneSumsUptoSaid : Prop := zoneSumsUptoRow.holds Try.pinned (OpenSpec.upto zoneSumsSpec)

/-- 'headgatelaw10.ZoneRanks', WHERE WHAT IT READS IS OF BULK AT MOST 1048576: true; the input reads as it did. -/
def zoneRanksUptoRow : OpenClaim := { program := "ytdkangjjiikdiaa", sum := "e30a5cb2fd2a1969bae58a808d8a59bc9249f3b640a31fc51fe9442be0cc9ff5", func := "headgate/headgatelaw10.ZoneRanks", spec := "zoneRanks", unfollowed := true, recurses := true, apart := false, narrowed := true }
def ZoneRanksUptoSaid : Prop := zoneRanksUptoRow.holds Try.pinned (OpenSpec.upto zoneRanksSpec)

/-- 'headgatelaw10.ZoneFits', WHERE WHAT IT READS IS OF BULK AT MOST 1048576: true; the input reads as it did. -/
def zoneFitsUptoRow : OpenClaim := { program := "ytdkangjjiikdiaa", sum := "e30a5cb2fd2a1969bae58a808d8a59bc9249f3b640a31fc51fe9442be0cc9ff5", func := "headgate/headgatelaw10.ZoneFits", spec := "zoneFits", unfollowed := true, recurses := true, apart := false, narrowed := true }
def ZoneFitsUptoSaid : Prop := zoneFitsUptoRow.holds Try.pinned (OpenSpec.upto zoneFitsSpec)

end Rows
end Go.Proofs.Ytdkangjjiikdiaa
