/- Contracts of the package zone and of its reference. -/
import Derived.Test.YtdkangjjiikdiaaKit
namespace Go.Proofs.Ytdkangjjiikdiaa
set_option linter.unusedSimpArgs false
set_option linter.unusedVariables false
open Go.RowKit Go.Maps

def cmpS (a b : Int) : Int := if a < b then -1 else if a = b then 0 else 1

set_option maxHeartbeats 400000 in
theorem compare_any (a b : Int) (w : World) :
    Calls Try.prog 43 #[.int .i64 a, .int .i64 b] w fun e w' => e = .returned (.int .i64 (cmpS a b)) ∧ w = w' := by
  unfold cmpS
  by_cases h1 : a < b
  · rw [if_pos h1]
    go_enter Try.func43, Try.ntmps43
    go_wp2
    go_ret
    exact ⟨rfl, rfl⟩
  · rw [if_neg h1]
    by_cases h2 : a = b
    · subst h2
      rw [if_pos rfl]
      go_enter Try.func43, Try.ntmps43
      go_wp2
      go_ret
      exact ⟨rfl, rfl⟩
    · rw [if_neg h2]
      have h3 : b < a := by omega
      clear h1 h2
      go_enter Try.func43, Try.ntmps43
      go_wp2
      go_ret
      exact ⟨rfl, rfl⟩

set_option maxHeartbeats 400000 in
theorem ascend_any (a b c : Int) (w : World) :
    Calls Try.prog 35 #[.agg #[.int .i64 a, .int .i64 b, .int .i64 c]] w fun e w' => e = .returned (.bool (decide (a < b ∧ b < c))) ∧ Below w.heap.size w w' := by
  by_cases h1 : a < b
  · have hc1 : cmpS a b < 0 := by unfold cmpS; rw [if_pos h1]; omega
    have hb1 : -1 ≤ cmpS a b := by unfold cmpS; rw [if_pos h1]; omega
    by_cases h2 : b < c
    · have hc2 : cmpS b c < 0 := by unfold cmpS; rw [if_pos h2]; omega
      have HD : Hid (decide (a < b ∧ b < c) = true) := by show _ = _; simp [h1, h2]
      clear h1 h2
      go_enter Try.func35, Try.ntmps35
      go_wp2
      refine wp_loop_rounds 3 ?_
      rw [rounds_succ]
      go_wp2
      go_quiet ((go_at_call 43; exact quiet_l (compare_any _ _ _)))
      go_wp2
      rw [rounds_succ]
      go_wp2
      go_quiet ((go_at_call 43; exact quiet_l2 (compare_any _ _ _)))
      go_wp2
      rw [rounds_succ]
      go_wp2
      go_ret
      exact ⟨ret_bool HD.out.symm, (by repeat' (first | with_reducible exact Below.refl _ _ | with_reducible assumption | with_reducible apply Below.drew | with_reducible apply below_drewN | with_reducible apply Below.alloc | with_reducible apply Below.setCell | (with_reducible refine Below.trans ?_ (Below.mono (by assumption) ?_)) | (simp; done) | (simp; omega) | omega | with_reducible apply le_size_alloc | with_reducible apply le_size_drewN | with_reducible apply le_size_drew | with_reducible apply le_size_setCell | refine Nat.le_trans ?_ (Below.size (by assumption))))⟩
    · have hc2 : 0 ≤ cmpS b c := by unfold cmpS; rw [if_neg h2]; split <;> omega
      have HD : Hid (decide (a < b ∧ b < c) = false) := by show _ = _; simp [h1, h2]
      clear h1 h2
      go_enter Try.func35, Try.ntmps35
      go_wp2
      refine wp_loop_rounds 3 ?_
      rw [rounds_succ]
      go_wp2
      go_quiet ((go_at_call 43; exact quiet_l (compare_any _ _ _)))
      go_wp2
      rw [rounds_succ]
      go_wp2
      go_quiet ((go_at_call 43; exact quiet_l2 (compare_any _ _ _)))
      go_wp2
      go_ret
      exact ⟨ret_bool HD.out.symm, (by repeat' (first | with_reducible exact Below.refl _ _ | with_reducible assumption | with_reducible apply Below.drew | with_reducible apply below_drewN | with_reducible apply Below.alloc | with_reducible apply Below.setCell | (with_reducible refine Below.trans ?_ (Below.mono (by assumption) ?_)) | (simp; done) | (simp; omega) | omega | with_reducible apply le_size_alloc | with_reducible apply le_size_drewN | with_reducible apply le_size_drew | with_reducible apply le_size_setCell | refine Nat.le_trans ?_ (Below.size (by assumption))))⟩
  · have hc1 : 0 ≤ cmpS a b := by unfold cmpS; rw [if_neg h1]; split <;> omega
    have HD : Hid (decide (a < b ∧ b < c) = false) := by show _ = _; simp [h1]
    clear h1
    go_enter Try.func35, Try.ntmps35
    go_wp2
    refine wp_loop_rounds 3 ?_
    rw [rounds_succ]
    go_wp2
    go_quiet ((go_at_call 43; exact quiet_l (compare_any _ _ _)))
    go_wp2
    go_ret
    exact ⟨ret_bool HD.out.symm, (by repeat' (first | with_reducible exact Below.refl _ _ | with_reducible assumption | with_reducible apply Below.drew | with_reducible apply below_drewN | with_reducible apply Below.alloc | with_reducible apply Below.setCell | (with_reducible refine Below.trans ?_ (Below.mono (by assumption) ?_)) | (simp; done) | (simp; omega) | omega | with_reducible apply le_size_alloc | with_reducible apply le_size_drewN | with_reducible apply le_size_drew | with_reducible apply le_size_setCell | refine Nat.le_trans ?_ (Below.size (by assumption))))⟩

def zchk (mn lo hi fr : Int) : Int := if fr < 1 ∨ 256 < fr then 2 else if mn < 0 ∨ fr < hi then 2 else if mn < lo ∧ lo < hi then 0 else 8

set_option maxHeartbeats 400000 in
theorem Check_any (mn lo hi fr : Int) (w : World) :
    Calls Try.prog 11 #[.agg #[.int .i64 mn, .int .i64 lo, .int .i64 hi], .int .i64 fr] w fun e w' => e = .returned (.int .i64 (zchk mn lo hi fr)) ∧ Below w.heap.size w w' := by
  by_cases h1 : fr < 1 ∨ 256 < fr
  · have hz : Hid (zchk mn lo hi fr = 2) := if_pos h1
    rcases h1 with h1 | h1
    all_goals
      go_enter Try.func11, Try.ntmps11
      go_wp2
      go_ret
      exact ⟨ret_int hz.out.symm, (by repeat' (first | with_reducible exact Below.refl _ _ | with_reducible assumption | with_reducible apply Below.drew | with_reducible apply below_drewN | with_reducible apply Below.alloc | with_reducible apply Below.setCell | (with_reducible refine Below.trans ?_ (Below.mono (by assumption) ?_)) | (simp; done) | (simp; omega) | omega | with_reducible apply le_size_alloc | with_reducible apply le_size_drewN | with_reducible apply le_size_drew | with_reducible apply le_size_setCell | refine Nat.le_trans ?_ (Below.size (by assumption))))⟩
  by_cases h2 : mn < 0 ∨ fr < hi
  · have hz : Hid (zchk mn lo hi fr = 2) := by show _ = _; rw [zchk, if_neg h1, if_pos h2]
    have h3 : 1 ≤ fr := by omega
    have h4 : fr ≤ 256 := by omega
    clear h1
    by_cases h5 : mn < 0
    · clear h2
      go_enter Try.func11, Try.ntmps11
      go_wp2
      go_ret
      exact ⟨ret_int hz.out.symm, (by repeat' (first | with_reducible exact Below.refl _ _ | with_reducible assumption | with_reducible apply Below.drew | with_reducible apply below_drewN | with_reducible apply Below.alloc | with_reducible apply Below.setCell | (with_reducible refine Below.trans ?_ (Below.mono (by assumption) ?_)) | (simp; done) | (simp; omega) | omega | with_reducible apply le_size_alloc | with_reducible apply le_size_drewN | with_reducible apply le_size_drew | with_reducible apply le_size_setCell | refine Nat.le_trans ?_ (Below.size (by assumption))))⟩
    · have h6 : fr < hi := by omega
      clear h2
      go_enter Try.func11, Try.ntmps11
      go_wp2
      go_ret
      exact ⟨ret_int hz.out.symm, (by repeat' (first | with_reducible exact Below.refl _ _ | with_reducible assumption | with_reducible apply Below.drew | with_reducible apply below_drewN | with_reducible apply Below.alloc | with_reducible apply Below.setCell | (with_reducible refine Below.trans ?_ (Below.mono (by assumption) ?_)) | (simp; done) | (simp; omega) | omega | with_reducible apply le_size_alloc | with_reducible apply le_size_drewN | with_reducible apply le_size_drew | with_reducible apply le_size_setCell | refine Nat.le_trans ?_ (Below.size (by assumption))))⟩
  have h3 : 1 ≤ fr := by omega
  have h4 : fr ≤ 256 := by omega
  have h5 : 0 ≤ mn := by omega
  have h6 : hi ≤ fr := by omega
  have hz : Hid (zchk mn lo hi fr = if mn < lo ∧ lo < hi then 0 else 8) := by show _ = _; rw [zchk, if_neg h1, if_neg h2]
  clear h1 h2
  by_cases h7 : mn < lo ∧ lo < hi
  · have hd : decide (mn < lo ∧ lo < hi) = true := by simpa using h7
    rw [if_pos h7] at hz
    clear h7
    go_enter Try.func11, Try.ntmps11
    go_wp2_with (first | (go_at_call 35; refine (ascend_any _ _ _ _).mono ?_; rintro e w1 ⟨rfl, hb1⟩) | go_in)
    go_ret
    exact ⟨ret_int hz.out.symm, (by repeat' (first | with_reducible exact Below.refl _ _ | with_reducible assumption | with_reducible apply Below.drew | with_reducible apply below_drewN | with_reducible apply Below.alloc | with_reducible apply Below.setCell | (with_reducible refine Below.trans ?_ (Below.mono (by assumption) ?_)) | (simp; done) | (simp; omega) | omega | with_reducible apply le_size_alloc | with_reducible apply le_size_drewN | with_reducible apply le_size_drew | with_reducible apply le_size_setCell | refine Nat.le_trans ?_ (Below.size (by assumption))))⟩
  · have hd : decide (mn < lo ∧ lo < hi) = false := by simpa using h7
    rw [if_neg h7] at hz
    clear h7
    go_enter Try.func11, Try.ntmps11
    go_wp2_with (first | (go_at_call 35; refine (ascend_any _ _ _ _).mono ?_; rintro e w1 ⟨rfl, hb1⟩) | go_in)
    go_ret
    exact ⟨ret_int hz.out.symm, (by repeat' (first | with_reducible exact Below.refl _ _ | with_reducible assumption | with_reducible apply Below.drew | with_reducible apply below_drewN | with_reducible apply Below.alloc | with_reducible apply Below.setCell | (with_reducible refine Below.trans ?_ (Below.mono (by assumption) ?_)) | (simp; done) | (simp; omega) | omega | with_reducible apply le_size_alloc | with_reducible apply le_size_drewN | with_reducible apply le_size_drew | with_reducible apply le_size_setCell | refine Nat.le_trans ?_ (Below.size (by assumption))))⟩

def zchd (mn lo hi c free n : Int) : Int :=
  if zchk mn lo hi 256 ≠ 0 then zchk mn lo hi 256 else if c < 1 ∨ 3 < c then 16 else if 0 ≤ free ∧ free ≤ 256 ∧ 0 ≤ n ∧ n ≤ 256 then 0 else 2

set_option maxHeartbeats 1000000 in
theorem checked_any (mn lo hi c free n : Int) (w : World) :
    Calls Try.prog 37 #[.agg #[.int .i64 mn, .int .i64 lo, .int .i64 hi], .int .i64 c, .int .i64 free, .int .i64 n] w fun e w' =>
      e = .returned (.int .i64 (zchd mn lo hi c free n)) ∧ Below w.heap.size w w' := by
  generalize hz : zchk mn lo hi 256 = z
  have HZ := Lib.hid hz
  by_cases h0 : z ≠ 0
  · have hr : Hid (zchd mn lo hi c free n = z) := by show _ = _; rw [zchd, hz, if_pos h0]
    have hne : (z != 0) = true := by simpa using h0
    clear hz h0
    go_enter Try.func37, Try.ntmps37
    go_wp2_with (go_at_call 11; refine (Check_any _ _ _ _ _).mono ?_; rw [HZ.out]; rintro e w1 ⟨rfl, hb1⟩)
    go_ret
    exact ⟨ret_int hr.out.symm, (by repeat' (first | with_reducible exact Below.refl _ _ | with_reducible assumption | with_reducible apply Below.drew | with_reducible apply below_drewN | with_reducible apply Below.alloc | with_reducible apply Below.setCell | (with_reducible refine Below.trans ?_ (Below.mono (by assumption) ?_)) | (simp; done) | (simp; omega) | omega | with_reducible apply le_size_alloc | with_reducible apply le_size_drewN | with_reducible apply le_size_drew | with_reducible apply le_size_setCell | refine Nat.le_trans ?_ (Below.size (by assumption))))⟩
  obtain rfl : z = 0 := by omega
  have hr : Hid (zchd mn lo hi c free n = if c < 1 ∨ 3 < c then 16 else if 0 ≤ free ∧ free ≤ 256 ∧ 0 ≤ n ∧ n ≤ 256 then 0 else 2) := by show _ = _; rw [zchd, hz, if_neg h0]
  clear hz h0
  by_cases h1 : c < 1 ∨ 3 < c
  · rw [if_pos h1] at hr
    rcases h1 with h1 | h1
    all_goals
      go_enter Try.func37, Try.ntmps37
      go_wp2_with (first | (go_at_call 11; refine (Check_any _ _ _ _ _).mono ?_; rw [HZ.out]; rintro e w1 ⟨rfl, hb1⟩) | go_in)
      go_ret
      exact ⟨ret_int hr.out.symm, (by repeat' (first | with_reducible exact Below.refl _ _ | with_reducible assumption | with_reducible apply Below.drew | with_reducible apply below_drewN | with_reducible apply Below.alloc | with_reducible apply Below.setCell | (with_reducible refine Below.trans ?_ (Below.mono (by assumption) ?_)) | (simp; done) | (simp; omega) | omega | with_reducible apply le_size_alloc | with_reducible apply le_size_drewN | with_reducible apply le_size_drew | with_reducible apply le_size_setCell | refine Nat.le_trans ?_ (Below.size (by assumption))))⟩
  rw [if_neg h1] at hr
  by_cases h2 : 0 ≤ free ∧ free ≤ 256 ∧ 0 ≤ n ∧ n ≤ 256
  · rw [if_pos h2] at hr
    obtain ⟨h3, h4, h5, h6⟩ := h2
    rcases (by omega : c = 1 ∨ c = 2 ∨ c = 3) with rfl | rfl | rfl
    all_goals
      clear h1
      go_enter Try.func37, Try.ntmps37
      go_wp2_with (first | (go_at_call 11; refine (Check_any _ _ _ _ _).mono ?_; rw [HZ.out]; rintro e w1 ⟨rfl, hb1⟩) | go_in)
      go_ret
      exact ⟨ret_int hr.out.symm, (by repeat' (first | with_reducible exact Below.refl _ _ | with_reducible assumption | with_reducible apply Below.drew | with_reducible apply below_drewN | with_reducible apply Below.alloc | with_reducible apply Below.setCell | (with_reducible refine Below.trans ?_ (Below.mono (by assumption) ?_)) | (simp; done) | (simp; omega) | omega | with_reducible apply le_size_alloc | with_reducible apply le_size_drewN | with_reducible apply le_size_drew | with_reducible apply le_size_setCell | refine Nat.le_trans ?_ (Below.size (by assumption))))⟩
  · rw [if_neg h2] at hr
    rcases (by omega : c = 1 ∨ c = 2 ∨ c = 3) with rfl | rfl | rfl
    all_goals
      clear h1
      rcases (by omega : free < 0 ∨ 256 < free ∨ (0 ≤ free ∧ free ≤ 256 ∧ n < 0) ∨ (0 ≤ free ∧ free ≤ 256 ∧ 256 < n)) with h3 | h3 | ⟨h3, h4, h5⟩ | ⟨h3, h4, h5⟩
      all_goals
        clear h2
        go_enter Try.func37, Try.ntmps37
        go_wp2_with (first | (go_at_call 11; refine (Check_any _ _ _ _ _).mono ?_; rw [HZ.out]; rintro e w1 ⟨rfl, hb1⟩) | go_in)
        go_ret
        exact ⟨ret_int hr.out.symm, (by repeat' (first | with_reducible exact Below.refl _ _ | with_reducible assumption | with_reducible apply Below.drew | with_reducible apply below_drewN | with_reducible apply Below.alloc | with_reducible apply Below.setCell | (with_reducible refine Below.trans ?_ (Below.mono (by assumption) ?_)) | (simp; done) | (simp; omega) | omega | with_reducible apply le_size_alloc | with_reducible apply le_size_drewN | with_reducible apply le_size_drew | with_reducible apply le_size_setCell | refine Nat.le_trans ?_ (Below.size (by assumption))))⟩
end Go.Proofs.Ytdkangjjiikdiaa
