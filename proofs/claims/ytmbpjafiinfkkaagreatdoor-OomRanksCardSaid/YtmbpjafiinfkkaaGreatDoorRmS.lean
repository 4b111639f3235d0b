/- Mappings and places: slices of them; the small functions of rmap, of its reference, of the kit. Written by gen_rms.py. -/
import Derived.Test.YtmbpjafiinfkkaaGreatDoorRow
import Derived.WideKeyRuns
import Derived.Test.YtmbpjafiinfkkaaGreatDoorKitS
namespace Go.Proofs.YtmbpjafiinfkkaaGreatDoor
set_option linter.unusedSimpArgs false
set_option linter.unusedVariables false
open Go.RowKit Go.Maps

theorem plain_int : Tryz.prog.plainKey 3 = true := by simp [Program.plainKey, Tryz.underlying3]
theorem part_int (w : World) (xs : Array Value) (i : Nat) (v : Value) (h : xs[i]? = some v) : (part 3 xs i).run Tryz.prog w = .ok v w := run_part_plain w plain_int h
theorem eqIn_int (w : World) (d : Nat) (a b : Int) : (Op.equalIn (d + 1) 3 (.int .i64 a) (.int .i64 b)).run Tryz.prog w = .ok (a == b) w := by
  simp [Op.equalIn, run_underlying Tryz.underlying3]

/-- A mapping: frame, process, page. -/
abbrev M3 := Int × Int × Int
/-- A place is in its ranges. -/
def okP (p : Int × Int) : Bool := decide (1 ≤ p.1 ∧ p.1 ≤ 8) && decide (0 ≤ p.2 ∧ p.2 < 64)
theorem okP_iff (p : Int × Int) : okP p = true ↔ (1 ≤ p.1 ∧ p.1 ≤ 8) ∧ 0 ≤ p.2 ∧ p.2 < 64 := by simp [okP]

end Go.Proofs.YtmbpjafiinfkkaaGreatDoor
