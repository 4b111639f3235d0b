/- Contracts of the kit's functions At and Has. -/
import Derived.Test.YtbeddhamnefpiaaMem
namespace Go.Proofs.Ytbeddhamnefpiaa
set_option linter.unusedSimpArgs false
set_option linter.unusedVariables false
open Go.RowKit Go.Maps

/-- The element number i of a list, or 0. -/
def atS (xs : List Int) (i : Int) : Int := if 0 ≤ i then xs.getD i.toNat 0 else 0
set_option maxHeartbeats 400000 in
theorem Has_any (A : Option Addr) (c : Nat) (xs : List Int) (x : Int) (w : World) (h : Sl w (.int .i64) A xs) (hn : xs.length ≤ 100000) :
    Calls Try.prog 41 #[.slice A xs.length c, .int .i64 x] w fun e w' => e = .returned (.bool (decide (x ∈ xs))) ∧ w = w' := by
  have H := Lib.hid h
  clear h
  go_enter Try.func41, Try.ntmps41
  go_wp2
  go_loop [5] (fun i => ∃ k : Nat, k ≤ xs.length ∧ i = .int .i64 k ∧ Hid (∀ m : Nat, m < k → xs[m]? ≠ some x)) (fun i => xs.length - (intOf i).toNat)
  case atStart => exact ⟨0, by omega, rfl, fun m hm => absurd hm (by omega)⟩
  case round =>
    obtain ⟨k, hk, rfl, HK⟩ := hrel
    by_cases hlt : k < xs.length
    · obtain ⟨b, off, y, rfl, hbl, hx, hc⟩ := H.out.at_ hlt
      have HX := Lib.hid hx
      clear hx
      by_cases e : y = x
      · subst e
        go_wp2
        go_ret
        exact ⟨ret_bool (decide_eq_true (List.mem_of_getElem? HX.out)).symm, rfl⟩
      · have he : (y == x) = false := by simpa using e
        have HE := Lib.hid e
        clear e
        go_wp2
        go_round
        case rel =>
          refine ⟨k + 1, by omega, by go_num, fun m hm hm' => ?_⟩
          rcases (by omega : m < k ∨ m = k) with h | rfl
          · exact HK.out m h hm'
          · have := HX.out.symm.trans hm'; injection this with this; exact HE.out this
        case measure => simp [intOf]; omega
    · go_wp2
      go_ret
      refine ⟨ret_bool (decide_eq_false (fun hm => ?_)).symm, rfl⟩
      obtain ⟨m, hl, e⟩ := List.mem_iff_getElem.1 hm
      exact HK.out m (by omega) (List.getElem?_eq_some_iff.2 ⟨hl, e⟩)
end Go.Proofs.Ytbeddhamnefpiaa
