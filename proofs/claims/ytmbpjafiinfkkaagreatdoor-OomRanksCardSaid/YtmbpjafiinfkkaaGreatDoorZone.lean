/- Contracts of the package zone and of its reference. -/
import Derived.Test.YtmbpjafiinfkkaaGreatDoorKit
namespace Go.Proofs.YtmbpjafiinfkkaaGreatDoor
set_option linter.unusedSimpArgs false
set_option linter.unusedVariables false
open Go.RowKit Go.Maps

def cmpS (a b : Int) : Int := if a < b then -1 else if a = b then 0 else 1

set_option maxHeartbeats 400000 in
theorem compare_any (a b : Int) (w : World) :
    Calls Tryz.prog 69 #[.int .i64 a, .int .i64 b] w fun e w' => e = .returned (.int .i64 (cmpS a b)) ∧ w = w' := by
  unfold cmpS
  by_cases h1 : a < b
  · rw [if_pos h1]
    go_enter Tryz.func69, Tryz.ntmps69
    go_wp2
    go_ret
    exact ⟨rfl, rfl⟩
  · rw [if_neg h1]
    by_cases h2 : a = b
    · subst h2
      rw [if_pos rfl]
      go_enter Tryz.func69, Tryz.ntmps69
      go_wp2
      go_ret
      exact ⟨rfl, rfl⟩
    · rw [if_neg h2]
      have h3 : b < a := by omega
      clear h1 h2
      go_enter Tryz.func69, Tryz.ntmps69
      go_wp2
      go_ret
      exact ⟨rfl, rfl⟩

set_option maxHeartbeats 400000 in
theorem ascend_any (a b c : Int) (w : World) :
    Calls Tryz.prog 76 #[.agg #[.int .i64 a, .int .i64 b, .int .i64 c]] w fun e w' => e = .returned (.bool (decide (a < b ∧ b < c))) ∧ Below w.heap.size w w' := by
  by_cases h1 : a < b
  · have hc1 : cmpS a b < 0 := by unfold cmpS; rw [if_pos h1]; omega
    have hb1 : -1 ≤ cmpS a b := by unfold cmpS; rw [if_pos h1]; omega
    by_cases h2 : b < c
    · have hc2 : cmpS b c < 0 := by unfold cmpS; rw [if_pos h2]; omega
      have HD : Hid (decide (a < b ∧ b < c) = true) := by show _ = _; simp [h1, h2]
      clear h1 h2
      go_enter Tryz.func76, Tryz.ntmps76
      go_wp2
      refine wp_loop_rounds 3 ?_
      rw [rounds_succ]
      go_wp2
      go_quiet ((go_at_call 69; exact quiet_l (compare_any _ _ _)))
      go_wp2
      rw [rounds_succ]
      go_wp2
      go_quiet ((go_at_call 69; exact quiet_l2 (compare_any _ _ _)))
      go_wp2
      rw [rounds_succ]
      go_wp2
      go_ret
      exact ⟨ret_bool HD.out.symm, (by repeat' (first | with_reducible exact Below.refl _ _ | with_reducible assumption | with_reducible apply Below.drew | with_reducible apply below_drewN | with_reducible apply Below.alloc | with_reducible apply Below.setCell | (with_reducible refine Below.trans ?_ (Below.mono (by assumption) ?_)) | (simp; done) | (simp; omega) | omega | with_reducible apply le_size_alloc | with_reducible apply le_size_drewN | with_reducible apply le_size_drew | with_reducible apply le_size_setCell | refine Nat.le_trans ?_ (Below.size (by assumption))))⟩
    · have hc2 : 0 ≤ cmpS b c := by unfold cmpS; rw [if_neg h2]; split <;> omega
      have HD : Hid (decide (a < b ∧ b < c) = false) := by show _ = _; simp [h1, h2]
      clear h1 h2
      go_enter Tryz.func76, Tryz.ntmps76
      go_wp2
      refine wp_loop_rounds 3 ?_
      rw [rounds_succ]
      go_wp2
      go_quiet ((go_at_call 69; exact quiet_l (compare_any _ _ _)))
      go_wp2
      rw [rounds_succ]
      go_wp2
      go_quiet ((go_at_call 69; exact quiet_l2 (compare_any _ _ _)))
      go_wp2
      go_ret
      exact ⟨ret_bool HD.out.symm, (by repeat' (first | with_reducible exact Below.refl _ _ | with_reducible assumption | with_reducible apply Below.drew | with_reducible apply below_drewN | with_reducible apply Below.alloc | with_reducible apply Below.setCell | (with_reducible refine Below.trans ?_ (Below.mono (by assumption) ?_)) | (simp; done) | (simp; omega) | omega | with_reducible apply le_size_alloc | with_reducible apply le_size_drewN | with_reducible apply le_size_drew | with_reducible apply le_size_setCell | refine Nat.le_trans ?_ (Below.size (by assumption))))⟩
  · have hc1 : 0 ≤ cmpS a b := by unfold cmpS; rw [if_neg h1]; split <;> omega
    have HD : Hid (decide (a < b ∧ b < c) = false) := by show _ = _; simp [h1]
    clear h1
    go_enter Tryz.func76, Tryz.ntmps76
    go_wp2
    refine wp_loop_rounds 3 ?_
    rw [rounds_succ]
    go_wp2
    go_quiet ((go_at_call 69; exact quiet_l (compare_any _ _ _)))
    go_wp2
    go_ret
    exact ⟨ret_bool HD.out.symm, (by repeat' (first | with_reducible exact Below.refl _ _ | with_reducible assumption | with_reducible apply Below.drew | with_reducible apply below_drewN | with_reducible apply Below.alloc | with_reducible apply Below.setCell | (with_reducible refine Below.trans ?_ (Below.mono (by assumption) ?_)) | (simp; done) | (simp; omega) | omega | with_reducible apply le_size_alloc | with_reducible apply le_size_drewN | with_reducible apply le_size_drew | with_reducible apply le_size_setCell | refine Nat.le_trans ?_ (Below.size (by assumption))))⟩

def zchk (mn lo hi fr : Int) : Int := if fr < 1 ∨ 256 < fr then 2 else if mn < 0 ∨ fr < hi then 2 else if mn < lo ∧ lo < hi then 0 else 8

def zchd (mn lo hi c free n : Int) : Int :=
  if zchk mn lo hi 256 ≠ 0 then zchk mn lo hi 256 else if c < 1 ∨ 3 < c then 16 else if 0 ≤ free ∧ free ≤ 256 ∧ 0 ≤ n ∧ n ≤ 256 then 0 else 2

end Go.Proofs.YtmbpjafiinfkkaaGreatDoor
