/- The start of a tied row of oom: entry's layout lies in block 0 (AL). No statement is proved here. -/
import Derived.Test.YtmbpjafiinfkkaaGreatDoorTie
import Derived.Test.YtmbpjafiinfkkaaGreatDoorCards
import Derived.Test.YtmbpjafiinfkkaaGreatDoorOE1
import Derived.Test.YtmbpjafiinfkkaaGreatDoorClose
import Derived.LaidMore
import Derived.Stop.Joined
import Derived.ChangeSame
namespace Go.Proofs.YtmbpjafiinfkkaaGreatDoor
set_option linter.unusedSimpArgs false
set_option linter.unusedVariables false
open Go.RowKit Go.Maps
open Go.ChangeShapes Go.WideShapes Go.ChangeAt

def laidV {H : Type} : List (String × DataW H) := [("headgate/entry.layout", Rows.laid_headgate_entry_layout)]
theorem gLayout : Tryz.prog.globalNamed "headgate/entry.layout" = some 0 := by kernel_rfl
theorem tLayout : (Tryz.prog.globals[0]?).map (·.type) = some 102 := by kernel_rfl
theorem cellsF : Tryz.prog.cellsOf 101 = 2 := by kernel_rfl
theorem cellsU : Tryz.prog.cellsOf 99 = 1 := by kernel_rfl
theorem cellsV : Tryz.prog.cellsOf 38 = 1 := by kernel_rfl

theorem door_met (os : Os) (args : Array Value) : laidMetH Tryz.prog laidV ((World.doorLaid Tryz.prog 400 os).forCall (fun _ _ => 0) ⟨#[], args, []⟩).memory :=
  laidMetH_of_parts3 (fuel := 8) (laidMet_of_run' 8 (by kernel_rfl) (by kernel_rfl)) (by kernel_rfl) (by kernel_rfl)

section
set_option maxRecDepth 100000
variable {H : Type} {enc : TypeId × Value → H} {W : World} {base : Nat} {spare : Nat → Bool} {held : Bool}
theorem cells_field {fuel : Nat} {cs : List Value} {x : DataW H × List MemPlace} {a b : Int} (h : DataW.trod enc Tryz.prog W base spare held fuel 101 cs = some x) (hx : x.1 = .agg [.lit (.int .u64 a), .lit (.int .u64 b)]) : cs[0]? = some (.int .u64 a) ∧ cs[1]? = some (.int .u64 b) := by
  obtain ⟨y0, y1, n, rfl, _, h0, h1⟩ := Go.ChangeShapes.trod_struct2 Tryz.underlying101 h
  obtain ⟨k0, e0, f0, _⟩ := DataW.trod_int Tryz.underlying99 h0
  obtain ⟨k1, e1, f1, _⟩ := DataW.trod_int Tryz.underlying38 h1
  have q0 : ((cs.drop 0).take 1)[0]? = some (.int .u64 k0) := by
    have : ((cs.drop 0).take (Tryz.prog.cellsOf 99))[0]? = some (.int .u64 k0) := by rw [show (cs.drop 0).take (Tryz.prog.cellsOf 99) = _ from e0]; rfl
    rwa [cellsU] at this
  have q1 : ((cs.drop 1).take 1)[0]? = some (.int .u64 k1) := by
    have : ((cs.drop 1).take (Tryz.prog.cellsOf 38))[0]? = some (.int .u64 k1) := by rw [show (cs.drop 1).take (Tryz.prog.cellsOf 38) = _ from e1]; rfl
    rwa [cellsV] at this
  rw [List.getElem?_take_of_lt (by omega), List.getElem?_drop] at q0 q1
  simp only [DataW.agg.injEq, List.cons.injEq, and_true] at hx
  obtain ⟨g0, g1⟩ := hx
  rw [f0] at g0
  rw [f1] at g1
  simp at g0 g1
  subst g0 g1
  exact ⟨q0, q1⟩
end

theorem of_laid {W : World} (h : laidMetH Tryz.prog laidV W) : AL W := by
  rw [MakeChecks.laidMetH_plain _ _ _ (by kernel_rfl)] at h
  obtain ⟨ps, ⟨g0, t0, cs0, f0, p0, q0, hg0, ht0, hv0, hd0, _, _⟩, _, _⟩ := h
  obtain rfl := Option.some.inj (gLayout.symm.trans hg0)
  obtain rfl := Option.some.inj (tLayout.symm.trans ht0)
  obtain ⟨xs, m, rfl, hx, hlen, hn, hel⟩ := DataW.trod_array Tryz.underlying102 hd0
  rw [cellsF] at hel
  simp only [Prod.mk.injEq, Rows.laid_headgate_entry_layout, DataW.agg.injEq] at hx
  have get : ∀ (i : Nat) (a b : Int), i < 3 → (xs.map (·.1))[i]? = some (.agg [.lit (.int .u64 a), .lit (.int .u64 b)]) → W.cell? ⟨0, 2 * i, none⟩ = some (.int .u64 a) ∧ W.cell? ⟨0, 2 * i + 1, none⟩ = some (.int .u64 b) := by
    intro i a b hi hL
    have h1 := hel i hi
    rw [List.getElem?_map, Option.map_eq_some_iff] at hL
    obtain ⟨x, hxi, hxa⟩ := hL
    rw [hxi] at h1
    obtain ⟨q0, q1⟩ := cells_field h1 hxa
    have v0 := World.var?_cell hg0 hv0 (2 * i)
    have v1 := World.var?_cell hg0 hv0 (2 * i + 1)
    rw [List.getElem?_take_of_lt (by omega), List.getElem?_drop] at q0 q1
    rw [show i * 2 + 0 = 2 * i by omega, Array.getElem?_toList] at q0
    rw [show i * 2 + 1 = 2 * i + 1 by omega, Array.getElem?_toList] at q1
    exact ⟨v0.trans q0, v1.trans q1⟩
  rw [← hx.1] at get
  obtain ⟨c0, c1⟩ := get 0 0 3 (by decide) rfl
  obtain ⟨c2, c3⟩ := get 1 2 7 (by decide) rfl
  obtain ⟨c4, c5⟩ := get 2 8 255 (by decide) rfl
  refine ⟨World.block_lt_of_cell? W ⟨0, 0, none⟩ c0, fun i x hx => ?_⟩
  match i, hx with
  | 0, hx => (obtain rfl : (0 : Int) = x := by simpa [layL] using hx); exact c0
  | 1, hx => (obtain rfl : (3 : Int) = x := by simpa [layL] using hx); exact c1
  | 2, hx => (obtain rfl : (2 : Int) = x := by simpa [layL] using hx); exact c2
  | 3, hx => (obtain rfl : (7 : Int) = x := by simpa [layL] using hx); exact c3
  | 4, hx => (obtain rfl : (8 : Int) = x := by simpa [layL] using hx); exact c4
  | 5, hx => (obtain rfl : (255 : Int) = x := by simpa [layL] using hx); exact c5
  | n + 6, hx => simp [layL] at hx
end Go.Proofs.YtmbpjafiinfkkaaGreatDoor
