/- Contracts of the kit's functions At and Has. -/
import Derived.Test.YtngenoblifhnpaaDoorMem
namespace Go.Proofs.YtngenoblifhnpaaDoor
open Go.RowKit Go.Maps

/-- The element number i of a list, or 0. -/
def atS (xs : List Int) (i : Int) : Int := if 0 ≤ i then xs.getD i.toNat 0 else 0
set_option maxHeartbeats 400000 in
theorem At_any (A : Option Addr) (c : Nat) (xs : List Int) (i : Int) (w : World) (h : Sl w (.int .i64) A xs) (hn : xs.length ≤ 9223372036854775807) :
    Calls Tryd.prog 19 #[.slice A xs.length c, .int .i64 i] w fun e w' => e = .returned (.int .i64 (atS xs i)) ∧ w = w' := by
  by_cases h0 : 0 ≤ i
  · by_cases h1 : i < xs.length
    · obtain ⟨b, off, x, rfl, hbl, hx, hc⟩ := h.at_ (k := i.toNat) (by omega)
      have HA : Hid (atS xs i = x) := by show _ = _; rw [atS, if_pos h0, List.getD_eq_getElem?_getD, hx]; rfl
      clear h hx
      go_enter Tryd.func19, Tryd.ntmps19
      go_wp2
      go_ret
      exact ⟨ret_int HA.out.symm, rfl⟩
    · have HA : Hid (atS xs i = 0) := by show _ = _; rw [atS, if_pos h0, List.getD_eq_getElem?_getD, List.getElem?_eq_none (by omega)]; rfl
      clear h
      go_enter Tryd.func19, Tryd.ntmps19
      go_wp2
      go_ret
      exact ⟨ret_int HA.out.symm, rfl⟩
  · have HA : Hid (atS xs i = 0) := by show _ = _; rw [atS, if_neg h0]
    clear h
    go_enter Tryd.func19, Tryd.ntmps19
    go_wp2
    go_ret
    exact ⟨ret_int HA.out.symm, rfl⟩

set_option maxHeartbeats 400000 in
theorem Has_any (A : Option Addr) (c : Nat) (xs : List Int) (x : Int) (w : World) (h : Sl w (.int .i64) A xs) (hn : xs.length ≤ 100000) :
    Calls Tryd.prog 34 #[.slice A xs.length c, .int .i64 x] w fun e w' => e = .returned (.bool (decide (x ∈ xs))) ∧ w = w' := by
  have H := Lib.hid h
  clear h
  go_enter Tryd.func34, Tryd.ntmps34
  go_wp2
  go_loop [5] (fun i => ∃ k : Nat, k ≤ xs.length ∧ i = .int .i64 k ∧ Hid (∀ m : Nat, m < k → xs[m]? ≠ some x)) (fun i => xs.length - (intOf i).toNat)
  case atStart => exact ⟨0, by omega, rfl, fun m hm => absurd hm (by omega)⟩
  case round =>
    obtain ⟨k, hk, rfl, HK⟩ := hrel
    by_cases hlt : k < xs.length
    · obtain ⟨b, off, y, rfl, hbl, hx, hc⟩ := H.out.at_ hlt
      have HX := Lib.hid hx
      clear hx
      by_cases e : y = x
      · subst e
        go_wp2
        go_ret
        exact ⟨ret_bool (decide_eq_true (List.mem_of_getElem? HX.out)).symm, rfl⟩
      · have he : (y == x) = false := by simpa using e
        have HE := Lib.hid e
        clear e
        go_wp2
        go_round
        case rel =>
          refine ⟨k + 1, by omega, by go_num, fun m hm hm' => ?_⟩
          rcases (by omega : m < k ∨ m = k) with h | rfl
          · exact HK.out m h hm'
          · have := HX.out.symm.trans hm'; injection this with this; exact HE.out this
        case measure => simp [intOf]; omega
    · go_wp2
      go_ret
      refine ⟨ret_bool (decide_eq_false (fun hm => ?_)).symm, rfl⟩
      obtain ⟨m, hl, e⟩ := List.mem_iff_getElem.1 hm
      exact HK.out m (by omega) (List.getElem?_eq_some_iff.2 ⟨hl, e⟩)
end Go.Proofs.YtngenoblifhnpaaDoor
