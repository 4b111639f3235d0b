/- The start of a tied row: the package's table lies in block 0 (AL). Written by gen_ric.py. -/
import Derived.Test.YtngenoblifhnpaaDoorTie
import Derived.Test.YtngenoblifhnpaaDoorCards
import Derived.Test.YtngenoblifhnpaaDoorRi2
import Derived.Test.YtngenoblifhnpaaDoorClose
import Derived.LaidMore
import Derived.Stop.Joined
namespace Go.Proofs.YtngenoblifhnpaaDoor
open Go.RowKit Go.Maps
open Go.ChangeShapes Go.WideShapes Go.ChangeAt

def laidV {H : Type} : List (String × DataW H) := [("headgate/readin.allowed", Rows.laid_headgate_readin_allowed)]
theorem gAllowed : Tryd.prog.globalNamed "headgate/readin.allowed" = some 0 := by kernel_rfl
theorem tAllowed : (Tryd.prog.globals[0]?).map (·.type) = some 75 := by kernel_rfl
theorem cells2 : Tryd.prog.cellsOf 74 = 2 := by kernel_rfl
theorem cells1 : Tryd.prog.cellsOf 5 = 1 := by kernel_rfl

theorem door_met (os : Os) (args : Array Value) : laidMetH Tryd.prog laidV ((World.doorLaid Tryd.prog 400 os).forCall (fun _ _ => 0) ⟨#[], args, []⟩).memory :=
  laidMetH_of_parts3 (fuel := 8) (laidMet_of_run' 8 (by kernel_rfl) (by kernel_rfl)) (by kernel_rfl) (by kernel_rfl)

section
set_option maxRecDepth 100000
variable {H : Type} {enc : TypeId × Value → H} {W : World} {base : Nat} {spare : Nat → Bool} {held : Bool}
theorem cells_arr2 {fuel : Nat} {cs : List Value} {x : DataW H × List MemPlace} {a b : Int} (h : DataW.trod enc Tryd.prog W base spare held fuel 74 cs = some x) (hx : x.1 = .agg [.lit (.int .u8 a), .lit (.int .u8 b)]) : cs[0]? = some (.int .u8 a) ∧ cs[1]? = some (.int .u8 b) := by
  obtain ⟨xs, m, rfl, rfl, hlen, hn, hel⟩ := DataW.trod_array Tryd.underlying74 h
  rw [cells1] at hel
  have h0 := hel 0 (by decide)
  have h1 := hel 1 (by decide)
  match xs, hn, hx, h0, h1 with
  | [x0, x1], _, hx, h0, h1 =>
    obtain ⟨k0, e0, f0, _⟩ := DataW.trod_int Tryd.underlying5 (show _ = some x0 from h0)
    obtain ⟨k1, e1, f1, _⟩ := DataW.trod_int Tryd.underlying5 (show _ = some x1 from h1)
    subst f0; subst f1
    simp at hx
    obtain ⟨rfl, rfl⟩ := hx
    match cs, e0, e1 with
    | [], e0, _ => simp at e0
    | [c], e0, e1 => simp at e1
    | c :: d :: r, e0, e1 =>
      simp at e0 e1
      simp [e0, e1]
end

theorem of_laid {W : World} (h : laidMetH Tryd.prog laidV W) : AL W := by
  rw [MakeChecks.laidMetH_plain _ _ _ (by kernel_rfl)] at h
  obtain ⟨ps, ⟨g0, t0, cs0, f0, p0, q0, hg0, ht0, hv0, hd0, _, _⟩, _, _⟩ := h
  obtain rfl := Option.some.inj (gAllowed.symm.trans hg0)
  obtain rfl := Option.some.inj (tAllowed.symm.trans ht0)
  obtain ⟨xs, m, rfl, hx, hlen, hn, hel⟩ := DataW.trod_array Tryd.underlying75 hd0
  rw [cells2] at hel
  simp only [Prod.mk.injEq, Rows.laid_headgate_readin_allowed, DataW.agg.injEq] at hx
  have get : ∀ (i : Nat) (a b : Int), i < 9 → (xs.map (·.1))[i]? = some (.agg [.lit (.int .u8 a), .lit (.int .u8 b)]) → W.cell? ⟨0, 2 * i, none⟩ = some (.int .u8 a) ∧ W.cell? ⟨0, 2 * i + 1, none⟩ = some (.int .u8 b) := by
    intro i a b hi hL
    have h1 := hel i hi
    rw [List.getElem?_map, Option.map_eq_some_iff] at hL
    obtain ⟨x, hxi, hxa⟩ := hL
    rw [hxi] at h1
    obtain ⟨q0, q1⟩ := cells_arr2 h1 hxa
    have v0 := World.var?_cell hg0 hv0 (2 * i)
    have v1 := World.var?_cell hg0 hv0 (2 * i + 1)
    rw [List.getElem?_take_of_lt (by omega), List.getElem?_drop] at q0 q1
    rw [show i * 2 + 0 = 2 * i by omega, Array.getElem?_toList] at q0
    rw [show i * 2 + 1 = 2 * i + 1 by omega, Array.getElem?_toList] at q1
    exact ⟨v0.trans q0, v1.trans q1⟩
  rw [← hx.1] at get
  obtain ⟨c0, c1⟩ := get 0 0 0 (by decide) rfl
  obtain ⟨c2, c3⟩ := get 1 66 84 (by decide) rfl
  obtain ⟨c4, c5⟩ := get 2 72 84 (by decide) rfl
  obtain ⟨c6, c7⟩ := get 3 96 0 (by decide) rfl
  obtain ⟨c8, c9⟩ := get 4 0 80 (by decide) rfl
  obtain ⟨c10, c11⟩ := get 5 0 0 (by decide) rfl
  obtain ⟨c12, c13⟩ := get 6 32 0 (by decide) rfl
  obtain ⟨c14, c15⟩ := get 7 0 16 (by decide) rfl
  obtain ⟨c16, c17⟩ := get 8 0 0 (by decide) rfl
  refine ⟨World.block_lt_of_cell? W ⟨0, 0, none⟩ c0, fun i x hx => ?_⟩
  match i, hx with
  | 0, hx => (obtain rfl : (0 : Int) = x := by simpa [tblR] using hx); exact c0
  | 1, hx => (obtain rfl : (0 : Int) = x := by simpa [tblR] using hx); exact c1
  | 2, hx => (obtain rfl : (66 : Int) = x := by simpa [tblR] using hx); exact c2
  | 3, hx => (obtain rfl : (84 : Int) = x := by simpa [tblR] using hx); exact c3
  | 4, hx => (obtain rfl : (72 : Int) = x := by simpa [tblR] using hx); exact c4
  | 5, hx => (obtain rfl : (84 : Int) = x := by simpa [tblR] using hx); exact c5
  | 6, hx => (obtain rfl : (96 : Int) = x := by simpa [tblR] using hx); exact c6
  | 7, hx => (obtain rfl : (0 : Int) = x := by simpa [tblR] using hx); exact c7
  | 8, hx => (obtain rfl : (0 : Int) = x := by simpa [tblR] using hx); exact c8
  | 9, hx => (obtain rfl : (80 : Int) = x := by simpa [tblR] using hx); exact c9
  | 10, hx => (obtain rfl : (0 : Int) = x := by simpa [tblR] using hx); exact c10
  | 11, hx => (obtain rfl : (0 : Int) = x := by simpa [tblR] using hx); exact c11
  | 12, hx => (obtain rfl : (32 : Int) = x := by simpa [tblR] using hx); exact c12
  | 13, hx => (obtain rfl : (0 : Int) = x := by simpa [tblR] using hx); exact c13
  | 14, hx => (obtain rfl : (0 : Int) = x := by simpa [tblR] using hx); exact c14
  | 15, hx => (obtain rfl : (16 : Int) = x := by simpa [tblR] using hx); exact c15
  | 16, hx => (obtain rfl : (0 : Int) = x := by simpa [tblR] using hx); exact c16
  | 17, hx => (obtain rfl : (0 : Int) = x := by simpa [tblR] using hx); exact c17
  | n + 18, hx => simp [tblR] at hx
end Go.Proofs.YtngenoblifhnpaaDoor
