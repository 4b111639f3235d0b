import Derived.Test.YthijbipidbjpfaaGreatDoorTie
import Derived.Test.YthijbipidbjpfaaGreatDoorCards
import Derived.Test.YthijbipidbjpfaaGreatDoorZV07
import Derived.Test.YthijbipidbjpfaaGreatDoorZV25
import Derived.LaidMore
import Derived.Stop.Joined
import Derived.ChangeSame
set_option linter.unusedSimpArgs false
set_option linter.unusedVariables false
set_option maxRecDepth 100000
set_option maxHeartbeats 8000000
namespace Go.Proofs.YthijbipidbjpfaaGreatDoor
open Go.RowKit Go.Maps
open Go.ChangeShapes Go.WideShapes Go.ChangeAt
def laidV {H : Type} : List (String × DataW H) := [("math/bits.deBruijn64tab", Rows.laid_math_bits_deBruijn64tab)]
theorem gTab : Tryz.prog.globalNamed "math/bits.deBruijn64tab" = some 0 := by kernel_rfl
theorem tTab : (Tryz.prog.globals[0]?).map (·.type) = some 239 := by kernel_rfl
theorem cells1 : Tryz.prog.cellsOf 5 = 1 := by kernel_rfl
theorem door_met (os : Os) (args : Array Value) : laidMetH Tryz.prog laidV ((World.doorLaid Tryz.prog 400 os).forCall (fun _ _ => 0) ⟨#[], args, []⟩).memory :=
 laidMetH_of_parts3 (fuel := 8) (laidMet_of_run' 8 (by kernel_rfl) (by kernel_rfl)) (by kernel_rfl) (by kernel_rfl)
theorem tab_list {H : Type} : (Rows.laid_math_bits_deBruijn64tab : DataW H) = .agg (Lib.deBruijn64tab.map fun (n : Nat) => .lit (.int .u8 (n : Int))) := rfl
theorem tab_len : Lib.deBruijn64tab.length = 64 := by decide
theorem of_laid {W : World} (h : laidMetH Tryz.prog laidV W) : TZ W := by
 rw [MakeChecks.laidMetH_plain _ _ _ (by kernel_rfl)] at h
 obtain ⟨ps, ⟨g0, t0, cs0, f0, p0, q0, hg0, ht0, hv0, hd0, _, _⟩, _, _⟩ := h
 obtain rfl := Option.some.inj (gTab.symm.trans hg0)
 obtain rfl := Option.some.inj (tTab.symm.trans ht0)
 obtain ⟨xs, m, rfl, hx, hlen, hn, hel⟩ := DataW.trod_array Tryz.underlying239 hd0
 rw [cells1] at hel
 rw [tab_list] at hx
 simp only [Prod.mk.injEq, DataW.agg.injEq] at hx
 intro j hj
 rw [tab_len] at hj
 have h1 := hel j hj
 have hL : (xs.map (·.1))[j]? = some (.lit (.int .u8 ((Lib.deBruijn64tab.getD j 0 : Nat) : Int))) := by
  rw [← hx.1, List.getElem?_map, List.getD_eq_getElem?_getD, List.getElem?_eq_getElem (by rw [tab_len]; exact hj)]
  rfl
 rw [List.getElem?_map, Option.map_eq_some_iff] at hL
 obtain ⟨x, hxi, hxa⟩ := hL
 rw [hxi] at h1
 obtain ⟨k0, e0, f0, _⟩ := DataW.trod_int Tryz.underlying5 (show _ = some x from h1)
 rw [f0] at hxa
 simp at hxa
 subst hxa
 have v0 := World.var?_cell hg0 hv0 j
 have q0 : ((cs0.toList.drop j).take 1)[0]? = some (.int .u8 ((Lib.deBruijn64tab.getD j 0 : Nat) : Int)) := by
  have e1 := e0
  rw [Nat.mul_one] at e1
  rw [e1]
  rfl
 rw [List.getElem?_take_of_lt (by omega), List.getElem?_drop, Nat.add_zero, Array.getElem?_toList] at q0
 exact v0.trans q0
end Go.Proofs.YthijbipidbjpfaaGreatDoor
