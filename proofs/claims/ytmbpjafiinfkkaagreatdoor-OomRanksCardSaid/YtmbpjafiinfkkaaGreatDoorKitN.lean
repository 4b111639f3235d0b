/- Contracts of the kit's functions At and Has. -/
import Derived.Test.YtmbpjafiinfkkaaGreatDoorMem
namespace Go.Proofs.YtmbpjafiinfkkaaGreatDoor
set_option linter.unusedSimpArgs false
set_option linter.unusedVariables false
open Go.RowKit Go.Maps

/-- The element number i of a list, or 0. -/
def atS (xs : List Int) (i : Int) : Int := if 0 ≤ i then xs.getD i.toNat 0 else 0
set_option maxHeartbeats 400000 in
theorem At_any (A : Option Addr) (c : Nat) (xs : List Int) (i : Int) (w : World) (h : Sl w (.int .i64) A xs) (hn : xs.length ≤ 9223372036854775807) :
    Calls Tryz.prog 60 #[.slice A xs.length c, .int .i64 i] w fun e w' => e = .returned (.int .i64 (atS xs i)) ∧ w = w' := by
  by_cases h0 : 0 ≤ i
  · by_cases h1 : i < xs.length
    · obtain ⟨b, off, x, rfl, hbl, hx, hc⟩ := h.at_ (k := i.toNat) (by omega)
      have HA : Hid (atS xs i = x) := by show _ = _; rw [atS, if_pos h0, List.getD_eq_getElem?_getD, hx]; rfl
      clear h hx
      go_enter Tryz.func60, Tryz.ntmps60
      go_wp2
      go_ret
      exact ⟨ret_int HA.out.symm, rfl⟩
    · have HA : Hid (atS xs i = 0) := by show _ = _; rw [atS, if_pos h0, List.getD_eq_getElem?_getD, List.getElem?_eq_none (by omega)]; rfl
      clear h
      go_enter Tryz.func60, Tryz.ntmps60
      go_wp2
      go_ret
      exact ⟨ret_int HA.out.symm, rfl⟩
  · have HA : Hid (atS xs i = 0) := by show _ = _; rw [atS, if_neg h0]
    clear h
    go_enter Tryz.func60, Tryz.ntmps60
    go_wp2
    go_ret
    exact ⟨ret_int HA.out.symm, rfl⟩

end Go.Proofs.YtmbpjafiinfkkaaGreatDoor
