/- What zone.Fit says, in plain words; the reference's Fit. Written by gen_zf4.py. -/
import Derived.Test.YtmbpjafiinfkkaaGreatDoorZF3
namespace Go.Proofs.YtmbpjafiinfkkaaGreatDoor
set_option linter.unusedSimpArgs false
set_option linter.unusedVariables false
open Go.RowKit Go.Maps

/-- The error of a configuration. -/
def fitE (F L S C Q mn lo hi M : Int) : Int :=
  if (16 ≤ F ∧ F ≤ 256) ∧ (1 ≤ L ∧ L ≤ F) ∧ (1 ≤ S ∧ S ≤ 256) ∧ (1 ≤ C ∧ C ≤ 16) ∧ (C < Q ∧ Q ≤ 32) ∧ (1 ≤ M ∧ M ≤ 64) then (if C < mn ∧ mn < lo ∧ lo < hi ∧ hi ≤ F - 12 - (Q + 7) / 8 then 0 else 8) else 2
def zF (F L S C Q mn lo hi M X : Int) (k : Int) : Int :=
    if k = 1 then (if (decide (16 ≤ F) && decide (F ≤ 256)) = true then 0 else 2) else
    if k = 2 then (if (decide (1 ≤ L) && decide (L ≤ F)) = true then 0 else 2) else
    if k = 3 then (if (decide (1 ≤ S) && decide (S ≤ 256)) = true then 0 else 2) else
    if k = 4 then (if (decide (1 ≤ C) && decide (C ≤ 16)) = true then 0 else 2) else
    if k = 5 then (if (decide (C < Q) && decide (Q ≤ 32)) = true then 0 else 2) else
    if k = 6 then (if (decide (1 ≤ M) && decide (M ≤ 64)) = true then 0 else 2) else
    if k = 7 then (if (decide (C < mn)) = true then 0 else 8) else
    if k = 8 then (if (decide (mn < lo) && decide (lo < hi)) = true then 0 else 8) else
    if k = 9 then (if (decide (hi ≤ X)) = true then 0 else 8) else 0
theorem fit_eq (F L S C Q mn lo hi M X1 X pool : Int) (hp : pool = wrap64 ((wrap64 (wrap64 (Q + 8) - 1)).tdiv 8)) (hX1 : X1 = wrap64 (F - 12)) (hX : X = wrap64 (X1 - pool)) :
    fstNZ (nine (zF F L S C Q mn lo hi M X)) = fitE F L S C Q mn lo hi M := by
  have hz1 : zF F L S C Q mn lo hi M X 1 = if 16 ≤ F ∧ F ≤ 256 then 0 else 2 := by
    show (if (decide (16 ≤ F) && decide (F ≤ 256)) = true then (0 : Int) else _) = _
    simp only [Bool.and_eq_true, decide_eq_true_eq]
  have hz2 : zF F L S C Q mn lo hi M X 2 = if 1 ≤ L ∧ L ≤ F then 0 else 2 := by
    show (if (decide (1 ≤ L) && decide (L ≤ F)) = true then (0 : Int) else _) = _
    simp only [Bool.and_eq_true, decide_eq_true_eq]
  have hz3 : zF F L S C Q mn lo hi M X 3 = if 1 ≤ S ∧ S ≤ 256 then 0 else 2 := by
    show (if (decide (1 ≤ S) && decide (S ≤ 256)) = true then (0 : Int) else _) = _
    simp only [Bool.and_eq_true, decide_eq_true_eq]
  have hz4 : zF F L S C Q mn lo hi M X 4 = if 1 ≤ C ∧ C ≤ 16 then 0 else 2 := by
    show (if (decide (1 ≤ C) && decide (C ≤ 16)) = true then (0 : Int) else _) = _
    simp only [Bool.and_eq_true, decide_eq_true_eq]
  have hz5 : zF F L S C Q mn lo hi M X 5 = if C < Q ∧ Q ≤ 32 then 0 else 2 := by
    show (if (decide (C < Q) && decide (Q ≤ 32)) = true then (0 : Int) else _) = _
    simp only [Bool.and_eq_true, decide_eq_true_eq]
  have hz6 : zF F L S C Q mn lo hi M X 6 = if 1 ≤ M ∧ M ≤ 64 then 0 else 2 := by
    show (if (decide (1 ≤ M) && decide (M ≤ 64)) = true then (0 : Int) else _) = _
    simp only [Bool.and_eq_true, decide_eq_true_eq]
  have hz7 : zF F L S C Q mn lo hi M X 7 = if C < mn then 0 else 8 := by
    show (if (decide (C < mn)) = true then (0 : Int) else _) = _
    simp only [Bool.and_eq_true, decide_eq_true_eq]
  have hz8 : zF F L S C Q mn lo hi M X 8 = if mn < lo ∧ lo < hi then 0 else 8 := by
    show (if (decide (mn < lo) && decide (lo < hi)) = true then (0 : Int) else _) = _
    simp only [Bool.and_eq_true, decide_eq_true_eq]
  have hz9 : zF F L S C Q mn lo hi M X 9 = if hi ≤ X then 0 else 8 := by
    show (if (decide (hi ≤ X)) = true then (0 : Int) else _) = _
    simp only [Bool.and_eq_true, decide_eq_true_eq]
  have hX' : (C < Q ∧ Q ≤ 32) → (1 ≤ C ∧ C ≤ 16) → (16 ≤ F ∧ F ≤ 256) → X = F - 12 - (Q + 7) / 8 := by
    intro h5 h4 h1
    have e1 : wrap64 (Q + 8) = Q + 8 := IntWalk.wrap64_in _ (by omega)
    rw [e1] at hp
    have e2 : wrap64 (Q + 8 - 1) = Q + 8 - 1 := IntWalk.wrap64_in _ (by omega)
    rw [e2, Int.tdiv_eq_ediv_of_nonneg (by omega)] at hp
    have e3 : wrap64 ((Q + 8 - 1) / 8) = (Q + 8 - 1) / 8 := IntWalk.wrap64_in _ (by omega)
    rw [e3] at hp
    have e4 : wrap64 (F - 12) = F - 12 := IntWalk.wrap64_in _ (by omega)
    rw [e4] at hX1
    have e5 : wrap64 (X1 - pool) = X1 - pool := IntWalk.wrap64_in _ (by omega)
    rw [e5] at hX
    omega
  clear hp hX1 hX
  unfold fitE nine
  simp only [fstNZ, hz1, hz2, hz3, hz4, hz5, hz6, hz7, hz8, hz9]
  by_cases h1 : 16 ≤ F ∧ F ≤ 256
  rotate_left
  · have n : ¬ ((16 ≤ F ∧ F ≤ 256) ∧ (1 ≤ L ∧ L ≤ F) ∧ (1 ≤ S ∧ S ≤ 256) ∧ (1 ≤ C ∧ C ≤ 16) ∧ (C < Q ∧ Q ≤ 32) ∧ (1 ≤ M ∧ M ≤ 64)) := fun h => h1 h.1
    rw [if_neg n]
    simp only [if_neg h1]
    rfl
  by_cases h2 : 1 ≤ L ∧ L ≤ F
  rotate_left
  · have n : ¬ ((16 ≤ F ∧ F ≤ 256) ∧ (1 ≤ L ∧ L ≤ F) ∧ (1 ≤ S ∧ S ≤ 256) ∧ (1 ≤ C ∧ C ≤ 16) ∧ (C < Q ∧ Q ≤ 32) ∧ (1 ≤ M ∧ M ≤ 64)) := fun h => h2 h.2.1
    rw [if_neg n]
    simp only [if_neg h2, if_pos h1]
    rfl
  by_cases h3 : 1 ≤ S ∧ S ≤ 256
  rotate_left
  · have n : ¬ ((16 ≤ F ∧ F ≤ 256) ∧ (1 ≤ L ∧ L ≤ F) ∧ (1 ≤ S ∧ S ≤ 256) ∧ (1 ≤ C ∧ C ≤ 16) ∧ (C < Q ∧ Q ≤ 32) ∧ (1 ≤ M ∧ M ≤ 64)) := fun h => h3 h.2.2.1
    rw [if_neg n]
    simp only [if_neg h3, if_pos h1, if_pos h2]
    rfl
  by_cases h4 : 1 ≤ C ∧ C ≤ 16
  rotate_left
  · have n : ¬ ((16 ≤ F ∧ F ≤ 256) ∧ (1 ≤ L ∧ L ≤ F) ∧ (1 ≤ S ∧ S ≤ 256) ∧ (1 ≤ C ∧ C ≤ 16) ∧ (C < Q ∧ Q ≤ 32) ∧ (1 ≤ M ∧ M ≤ 64)) := fun h => h4 h.2.2.2.1
    rw [if_neg n]
    simp only [if_neg h4, if_pos h1, if_pos h2, if_pos h3]
    rfl
  by_cases h5 : C < Q ∧ Q ≤ 32
  rotate_left
  · have n : ¬ ((16 ≤ F ∧ F ≤ 256) ∧ (1 ≤ L ∧ L ≤ F) ∧ (1 ≤ S ∧ S ≤ 256) ∧ (1 ≤ C ∧ C ≤ 16) ∧ (C < Q ∧ Q ≤ 32) ∧ (1 ≤ M ∧ M ≤ 64)) := fun h => h5 h.2.2.2.2.1
    rw [if_neg n]
    simp only [if_neg h5, if_pos h1, if_pos h2, if_pos h3, if_pos h4]
    rfl
  by_cases h6 : 1 ≤ M ∧ M ≤ 64
  rotate_left
  · have n : ¬ ((16 ≤ F ∧ F ≤ 256) ∧ (1 ≤ L ∧ L ≤ F) ∧ (1 ≤ S ∧ S ≤ 256) ∧ (1 ≤ C ∧ C ≤ 16) ∧ (C < Q ∧ Q ≤ 32) ∧ (1 ≤ M ∧ M ≤ 64)) := fun h => h6 h.2.2.2.2.2
    rw [if_neg n]
    simp only [if_neg h6, if_pos h1, if_pos h2, if_pos h3, if_pos h4, if_pos h5]
    rfl
  rw [if_pos (show (16 ≤ F ∧ F ≤ 256) ∧ (1 ≤ L ∧ L ≤ F) ∧ (1 ≤ S ∧ S ≤ 256) ∧ (1 ≤ C ∧ C ≤ 16) ∧ (C < Q ∧ Q ≤ 32) ∧ (1 ≤ M ∧ M ≤ 64) from ⟨h1, h2, h3, h4, h5, h6⟩)]
  rw [hX' h5 h4 h1]
  simp only [if_pos h1, if_pos h2, if_pos h3, if_pos h4, if_pos h5, if_pos h6, if_true]
  by_cases h7 : C < mn
  rotate_left
  · rw [if_neg (show ¬ (C < mn ∧ mn < lo ∧ lo < hi ∧ hi ≤ F - 12 - (Q + 7) / 8) from fun h => h7 h.1)]
    simp only [if_neg h7]
    rfl
  by_cases h8 : mn < lo ∧ lo < hi
  rotate_left
  · rw [if_neg (show ¬ (C < mn ∧ mn < lo ∧ lo < hi ∧ hi ≤ F - 12 - (Q + 7) / 8) from fun h => h8 ⟨h.2.1, h.2.2.1⟩)]
    simp only [if_pos h7, if_neg h8, if_true]
    rfl
  by_cases h9 : hi ≤ F - 12 - (Q + 7) / 8
  · rw [if_pos (show C < mn ∧ mn < lo ∧ lo < hi ∧ hi ≤ F - 12 - (Q + 7) / 8 from ⟨h7, h8.1, h8.2, h9⟩)]
    simp only [if_pos h7, if_pos h8, if_pos h9, if_true]
  · rw [if_neg (show ¬ (C < mn ∧ mn < lo ∧ lo < hi ∧ hi ≤ F - 12 - (Q + 7) / 8) from fun h => h9 h.2.2.2)]
    simp only [if_pos h7, if_pos h8, if_neg h9, if_true]
    rfl

def cfgV (F L S C Q mn lo hi M : Int) : Value := .agg #[.int .i64 F, .int .i64 L, .int .i64 S, .int .i64 C, .int .i64 Q, .int .i64 mn, .int .i64 lo, .int .i64 hi, .int .i64 M]
theorem Fit_any (F L S C Q mn lo hi M : Int) (w : World) : Calls Tryz.prog 53 #[cfgV F L S C Q mn lo hi M] w fun e w' => e = .returned (fitV mn lo hi (fitE F L S C Q mn lo hi M)) ∧ Below w.heap.size w w' := by
  rw [← fit_eq F L S C Q mn lo hi M _ _ _ rfl rfl rfl]
  exact Fit_z F L S C Q mn lo hi M (zF F L S C Q mn lo hi M _) w _ _ _ rfl rfl rfl rfl rfl rfl rfl rfl rfl rfl rfl rfl

theorem rIn_true (n a b : Int) (w : World) (h1 : a ≤ n) (h2 : n ≤ b) : Calls Tryz.prog 78 #[.int .i64 n, .int .i64 a, .int .i64 b] w fun e w' => e = .returned (.bool true) ∧ w = w' := by
  go_enter Tryz.func78, Tryz.ntmps78
  go_wp2
  go_ret
  exact ⟨rfl, rfl⟩
theorem rIn_false (n a b : Int) (w : World) (h : ¬ (a ≤ n ∧ n ≤ b)) : Calls Tryz.prog 78 #[.int .i64 n, .int .i64 a, .int .i64 b] w fun e w' => e = .returned (.bool false) ∧ w = w' := by
  rcases (by omega : n < a ∨ (a ≤ n ∧ b < n)) with h | ⟨h1, h2⟩
  all_goals
    go_enter Tryz.func78, Tryz.ntmps78
    go_wp2
    go_ret
    first | exact ⟨rfl, rfl⟩ | exact ⟨ret_bool (by simp; omega), rfl⟩

set_option maxRecDepth 100000 in
set_option maxHeartbeats 4000000 in
theorem rFit_1 (F L S C Q mn lo hi M : Int) (w : World) (h1 : ¬ (16 ≤ F ∧ F ≤ 256)) : Calls Tryz.prog 54 #[cfgV F L S C Q mn lo hi M] w fun e w' => e = .returned (fitV mn lo hi 2) ∧ Below w.heap.size w w' := by
  unfold cfgV
  go_enter Tryz.func54, Tryz.ntmps54
  go_wp2_with (first
    | (go_at_call 78; refine (rIn_true _ _ _ _ (by omega) (by omega)).mono ?_; rintro e w1 ⟨rfl, rfl⟩)
    | (go_at_call 78; refine (rIn_false _ _ _ _ (by omega)).mono ?_; rintro e w1 ⟨rfl, rfl⟩))
  refine bodyPost_ret (v := fitV mn lo hi 2) (by simp [results, Tryz.results54, go_sem, fitV, marksV]) rfl ?_
  exact ⟨rfl, (by repeat' (first | with_reducible exact Below.refl _ _ | with_reducible assumption | with_reducible apply Below.drew | with_reducible apply below_drewN | with_reducible apply Below.alloc | with_reducible apply Below.setCell | (with_reducible refine Below.trans ?_ (Below.mono (by assumption) ?_)) | (simp; done) | (simp; omega) | omega | with_reducible apply le_size_alloc | with_reducible apply le_size_drewN | with_reducible apply le_size_drew | with_reducible apply le_size_setCell | refine Nat.le_trans ?_ (Below.size (by assumption))))⟩

set_option maxRecDepth 100000 in
set_option maxHeartbeats 4000000 in
theorem rFit_2 (F L S C Q mn lo hi M : Int) (w : World) (h1 : 16 ≤ F ∧ F ≤ 256) (h2 : ¬ (1 ≤ L ∧ L ≤ F)) : Calls Tryz.prog 54 #[cfgV F L S C Q mn lo hi M] w fun e w' => e = .returned (fitV mn lo hi 2) ∧ Below w.heap.size w w' := by
  obtain ⟨h1a, h1b⟩ := h1
  unfold cfgV
  go_enter Tryz.func54, Tryz.ntmps54
  go_wp2_with (first
    | (go_at_call 78; refine (rIn_true _ _ _ _ (by omega) (by omega)).mono ?_; rintro e w1 ⟨rfl, rfl⟩)
    | (go_at_call 78; refine (rIn_false _ _ _ _ (by omega)).mono ?_; rintro e w1 ⟨rfl, rfl⟩))
  refine bodyPost_ret (v := fitV mn lo hi 2) (by simp [results, Tryz.results54, go_sem, fitV, marksV]) rfl ?_
  exact ⟨rfl, (by repeat' (first | with_reducible exact Below.refl _ _ | with_reducible assumption | with_reducible apply Below.drew | with_reducible apply below_drewN | with_reducible apply Below.alloc | with_reducible apply Below.setCell | (with_reducible refine Below.trans ?_ (Below.mono (by assumption) ?_)) | (simp; done) | (simp; omega) | omega | with_reducible apply le_size_alloc | with_reducible apply le_size_drewN | with_reducible apply le_size_drew | with_reducible apply le_size_setCell | refine Nat.le_trans ?_ (Below.size (by assumption))))⟩

set_option maxRecDepth 100000 in
set_option maxHeartbeats 4000000 in
theorem rFit_3 (F L S C Q mn lo hi M : Int) (w : World) (h1 : 16 ≤ F ∧ F ≤ 256) (h2 : 1 ≤ L ∧ L ≤ F) (h3 : ¬ (1 ≤ S ∧ S ≤ 256)) : Calls Tryz.prog 54 #[cfgV F L S C Q mn lo hi M] w fun e w' => e = .returned (fitV mn lo hi 2) ∧ Below w.heap.size w w' := by
  obtain ⟨h1a, h1b⟩ := h1
  obtain ⟨h2a, h2b⟩ := h2
  unfold cfgV
  go_enter Tryz.func54, Tryz.ntmps54
  go_wp2_with (first
    | (go_at_call 78; refine (rIn_true _ _ _ _ (by omega) (by omega)).mono ?_; rintro e w1 ⟨rfl, rfl⟩)
    | (go_at_call 78; refine (rIn_false _ _ _ _ (by omega)).mono ?_; rintro e w1 ⟨rfl, rfl⟩))
  refine bodyPost_ret (v := fitV mn lo hi 2) (by simp [results, Tryz.results54, go_sem, fitV, marksV]) rfl ?_
  exact ⟨rfl, (by repeat' (first | with_reducible exact Below.refl _ _ | with_reducible assumption | with_reducible apply Below.drew | with_reducible apply below_drewN | with_reducible apply Below.alloc | with_reducible apply Below.setCell | (with_reducible refine Below.trans ?_ (Below.mono (by assumption) ?_)) | (simp; done) | (simp; omega) | omega | with_reducible apply le_size_alloc | with_reducible apply le_size_drewN | with_reducible apply le_size_drew | with_reducible apply le_size_setCell | refine Nat.le_trans ?_ (Below.size (by assumption))))⟩

set_option maxRecDepth 100000 in
set_option maxHeartbeats 4000000 in
theorem rFit_4 (F L S C Q mn lo hi M : Int) (w : World) (h1 : 16 ≤ F ∧ F ≤ 256) (h2 : 1 ≤ L ∧ L ≤ F) (h3 : 1 ≤ S ∧ S ≤ 256) (h4 : ¬ (1 ≤ C ∧ C ≤ 16)) : Calls Tryz.prog 54 #[cfgV F L S C Q mn lo hi M] w fun e w' => e = .returned (fitV mn lo hi 2) ∧ Below w.heap.size w w' := by
  obtain ⟨h1a, h1b⟩ := h1
  obtain ⟨h2a, h2b⟩ := h2
  obtain ⟨h3a, h3b⟩ := h3
  unfold cfgV
  go_enter Tryz.func54, Tryz.ntmps54
  go_wp2_with (first
    | (go_at_call 78; refine (rIn_true _ _ _ _ (by omega) (by omega)).mono ?_; rintro e w1 ⟨rfl, rfl⟩)
    | (go_at_call 78; refine (rIn_false _ _ _ _ (by omega)).mono ?_; rintro e w1 ⟨rfl, rfl⟩))
  refine bodyPost_ret (v := fitV mn lo hi 2) (by simp [results, Tryz.results54, go_sem, fitV, marksV]) rfl ?_
  exact ⟨rfl, (by repeat' (first | with_reducible exact Below.refl _ _ | with_reducible assumption | with_reducible apply Below.drew | with_reducible apply below_drewN | with_reducible apply Below.alloc | with_reducible apply Below.setCell | (with_reducible refine Below.trans ?_ (Below.mono (by assumption) ?_)) | (simp; done) | (simp; omega) | omega | with_reducible apply le_size_alloc | with_reducible apply le_size_drewN | with_reducible apply le_size_drew | with_reducible apply le_size_setCell | refine Nat.le_trans ?_ (Below.size (by assumption))))⟩

set_option maxRecDepth 100000 in
set_option maxHeartbeats 4000000 in
theorem rFit_5 (F L S C Q mn lo hi M : Int) (w : World) (h1 : 16 ≤ F ∧ F ≤ 256) (h2 : 1 ≤ L ∧ L ≤ F) (h3 : 1 ≤ S ∧ S ≤ 256) (h4 : 1 ≤ C ∧ C ≤ 16) (h5 : ¬ (C < Q ∧ Q ≤ 32)) : Calls Tryz.prog 54 #[cfgV F L S C Q mn lo hi M] w fun e w' => e = .returned (fitV mn lo hi 2) ∧ Below w.heap.size w w' := by
  obtain ⟨h1a, h1b⟩ := h1
  obtain ⟨h2a, h2b⟩ := h2
  obtain ⟨h3a, h3b⟩ := h3
  obtain ⟨h4a, h4b⟩ := h4
  unfold cfgV
  go_enter Tryz.func54, Tryz.ntmps54
  go_wp2_with (first
    | (go_at_call 78; refine (rIn_true _ _ _ _ (by omega) (by omega)).mono ?_; rintro e w1 ⟨rfl, rfl⟩)
    | (go_at_call 78; refine (rIn_false _ _ _ _ (by omega)).mono ?_; rintro e w1 ⟨rfl, rfl⟩))
  refine bodyPost_ret (v := fitV mn lo hi 2) (by simp [results, Tryz.results54, go_sem, fitV, marksV]) rfl ?_
  exact ⟨rfl, (by repeat' (first | with_reducible exact Below.refl _ _ | with_reducible assumption | with_reducible apply Below.drew | with_reducible apply below_drewN | with_reducible apply Below.alloc | with_reducible apply Below.setCell | (with_reducible refine Below.trans ?_ (Below.mono (by assumption) ?_)) | (simp; done) | (simp; omega) | omega | with_reducible apply le_size_alloc | with_reducible apply le_size_drewN | with_reducible apply le_size_drew | with_reducible apply le_size_setCell | refine Nat.le_trans ?_ (Below.size (by assumption))))⟩

set_option maxRecDepth 100000 in
set_option maxHeartbeats 4000000 in
theorem rFit_6 (F L S C Q mn lo hi M : Int) (w : World) (h1 : 16 ≤ F ∧ F ≤ 256) (h2 : 1 ≤ L ∧ L ≤ F) (h3 : 1 ≤ S ∧ S ≤ 256) (h4 : 1 ≤ C ∧ C ≤ 16) (h5 : C < Q ∧ Q ≤ 32) (h6 : ¬ (1 ≤ M ∧ M ≤ 64)) : Calls Tryz.prog 54 #[cfgV F L S C Q mn lo hi M] w fun e w' => e = .returned (fitV mn lo hi 2) ∧ Below w.heap.size w w' := by
  obtain ⟨h1a, h1b⟩ := h1
  obtain ⟨h2a, h2b⟩ := h2
  obtain ⟨h3a, h3b⟩ := h3
  obtain ⟨h4a, h4b⟩ := h4
  obtain ⟨h5a, h5b⟩ := h5
  unfold cfgV
  go_enter Tryz.func54, Tryz.ntmps54
  go_wp2_with (first
    | (go_at_call 78; refine (rIn_true _ _ _ _ (by omega) (by omega)).mono ?_; rintro e w1 ⟨rfl, rfl⟩)
    | (go_at_call 78; refine (rIn_false _ _ _ _ (by omega)).mono ?_; rintro e w1 ⟨rfl, rfl⟩))
  refine bodyPost_ret (v := fitV mn lo hi 2) (by simp [results, Tryz.results54, go_sem, fitV, marksV]) rfl ?_
  exact ⟨rfl, (by repeat' (first | with_reducible exact Below.refl _ _ | with_reducible assumption | with_reducible apply Below.drew | with_reducible apply below_drewN | with_reducible apply Below.alloc | with_reducible apply Below.setCell | (with_reducible refine Below.trans ?_ (Below.mono (by assumption) ?_)) | (simp; done) | (simp; omega) | omega | with_reducible apply le_size_alloc | with_reducible apply le_size_drewN | with_reducible apply le_size_drew | with_reducible apply le_size_setCell | refine Nat.le_trans ?_ (Below.size (by assumption))))⟩

set_option maxRecDepth 100000 in
set_option maxHeartbeats 4000000 in
theorem rFit_7 (F L S C Q mn lo hi M : Int) (w : World) (h1 : 16 ≤ F ∧ F ≤ 256) (h2 : 1 ≤ L ∧ L ≤ F) (h3 : 1 ≤ S ∧ S ≤ 256) (h4 : 1 ≤ C ∧ C ≤ 16) (h5 : C < Q ∧ Q ≤ 32) (h6 : 1 ≤ M ∧ M ≤ 64) (h7 : ¬ (C < mn)) : Calls Tryz.prog 54 #[cfgV F L S C Q mn lo hi M] w fun e w' => e = .returned (fitV mn lo hi 8) ∧ Below w.heap.size w w' := by
  obtain ⟨h1a, h1b⟩ := h1
  obtain ⟨h2a, h2b⟩ := h2
  obtain ⟨h3a, h3b⟩ := h3
  obtain ⟨h4a, h4b⟩ := h4
  obtain ⟨h5a, h5b⟩ := h5
  obtain ⟨h6a, h6b⟩ := h6
  have e1 : (Q + 7).tdiv 8 = (Q + 7) / 8 := Int.tdiv_eq_ediv_of_nonneg (by omega)
  unfold cfgV
  go_enter Tryz.func54, Tryz.ntmps54
  go_wp2_with (first
    | (go_at_call 78; refine (rIn_true _ _ _ _ (by omega) (by omega)).mono ?_; rintro e w1 ⟨rfl, rfl⟩)
    | (go_at_call 78; refine (rIn_false _ _ _ _ (by omega)).mono ?_; rintro e w1 ⟨rfl, rfl⟩))
  refine bodyPost_ret (v := fitV mn lo hi 8) (by simp [results, Tryz.results54, go_sem, fitV, marksV]) rfl ?_
  exact ⟨rfl, (by repeat' (first | with_reducible exact Below.refl _ _ | with_reducible assumption | with_reducible apply Below.drew | with_reducible apply below_drewN | with_reducible apply Below.alloc | with_reducible apply Below.setCell | (with_reducible refine Below.trans ?_ (Below.mono (by assumption) ?_)) | (simp; done) | (simp; omega) | omega | with_reducible apply le_size_alloc | with_reducible apply le_size_drewN | with_reducible apply le_size_drew | with_reducible apply le_size_setCell | refine Nat.le_trans ?_ (Below.size (by assumption))))⟩

set_option maxRecDepth 100000 in
set_option maxHeartbeats 4000000 in
theorem rFit_8 (F L S C Q mn lo hi M : Int) (w : World) (h1 : 16 ≤ F ∧ F ≤ 256) (h2 : 1 ≤ L ∧ L ≤ F) (h3 : 1 ≤ S ∧ S ≤ 256) (h4 : 1 ≤ C ∧ C ≤ 16) (h5 : C < Q ∧ Q ≤ 32) (h6 : 1 ≤ M ∧ M ≤ 64) (h7 : C < mn) (h8 : ¬ (mn < lo)) : Calls Tryz.prog 54 #[cfgV F L S C Q mn lo hi M] w fun e w' => e = .returned (fitV mn lo hi 8) ∧ Below w.heap.size w w' := by
  obtain ⟨h1a, h1b⟩ := h1
  obtain ⟨h2a, h2b⟩ := h2
  obtain ⟨h3a, h3b⟩ := h3
  obtain ⟨h4a, h4b⟩ := h4
  obtain ⟨h5a, h5b⟩ := h5
  obtain ⟨h6a, h6b⟩ := h6
  have e1 : (Q + 7).tdiv 8 = (Q + 7) / 8 := Int.tdiv_eq_ediv_of_nonneg (by omega)
  unfold cfgV
  go_enter Tryz.func54, Tryz.ntmps54
  go_wp2_with (first
    | (go_at_call 78; refine (rIn_true _ _ _ _ (by omega) (by omega)).mono ?_; rintro e w1 ⟨rfl, rfl⟩)
    | (go_at_call 78; refine (rIn_false _ _ _ _ (by omega)).mono ?_; rintro e w1 ⟨rfl, rfl⟩))
  refine bodyPost_ret (v := fitV mn lo hi 8) (by simp [results, Tryz.results54, go_sem, fitV, marksV]) rfl ?_
  exact ⟨rfl, (by repeat' (first | with_reducible exact Below.refl _ _ | with_reducible assumption | with_reducible apply Below.drew | with_reducible apply below_drewN | with_reducible apply Below.alloc | with_reducible apply Below.setCell | (with_reducible refine Below.trans ?_ (Below.mono (by assumption) ?_)) | (simp; done) | (simp; omega) | omega | with_reducible apply le_size_alloc | with_reducible apply le_size_drewN | with_reducible apply le_size_drew | with_reducible apply le_size_setCell | refine Nat.le_trans ?_ (Below.size (by assumption))))⟩

set_option maxRecDepth 100000 in
set_option maxHeartbeats 4000000 in
theorem rFit_9 (F L S C Q mn lo hi M : Int) (w : World) (h1 : 16 ≤ F ∧ F ≤ 256) (h2 : 1 ≤ L ∧ L ≤ F) (h3 : 1 ≤ S ∧ S ≤ 256) (h4 : 1 ≤ C ∧ C ≤ 16) (h5 : C < Q ∧ Q ≤ 32) (h6 : 1 ≤ M ∧ M ≤ 64) (h7 : C < mn) (h8 : mn < lo) (h9 : ¬ (lo < hi)) : Calls Tryz.prog 54 #[cfgV F L S C Q mn lo hi M] w fun e w' => e = .returned (fitV mn lo hi 8) ∧ Below w.heap.size w w' := by
  obtain ⟨h1a, h1b⟩ := h1
  obtain ⟨h2a, h2b⟩ := h2
  obtain ⟨h3a, h3b⟩ := h3
  obtain ⟨h4a, h4b⟩ := h4
  obtain ⟨h5a, h5b⟩ := h5
  obtain ⟨h6a, h6b⟩ := h6
  have e1 : (Q + 7).tdiv 8 = (Q + 7) / 8 := Int.tdiv_eq_ediv_of_nonneg (by omega)
  unfold cfgV
  go_enter Tryz.func54, Tryz.ntmps54
  go_wp2_with (first
    | (go_at_call 78; refine (rIn_true _ _ _ _ (by omega) (by omega)).mono ?_; rintro e w1 ⟨rfl, rfl⟩)
    | (go_at_call 78; refine (rIn_false _ _ _ _ (by omega)).mono ?_; rintro e w1 ⟨rfl, rfl⟩))
  refine bodyPost_ret (v := fitV mn lo hi 8) (by simp [results, Tryz.results54, go_sem, fitV, marksV]) rfl ?_
  exact ⟨rfl, (by repeat' (first | with_reducible exact Below.refl _ _ | with_reducible assumption | with_reducible apply Below.drew | with_reducible apply below_drewN | with_reducible apply Below.alloc | with_reducible apply Below.setCell | (with_reducible refine Below.trans ?_ (Below.mono (by assumption) ?_)) | (simp; done) | (simp; omega) | omega | with_reducible apply le_size_alloc | with_reducible apply le_size_drewN | with_reducible apply le_size_drew | with_reducible apply le_size_setCell | refine Nat.le_trans ?_ (Below.size (by assumption))))⟩

set_option maxRecDepth 100000 in
set_option maxHeartbeats 4000000 in
theorem rFit_10 (F L S C Q mn lo hi M : Int) (w : World) (h1 : 16 ≤ F ∧ F ≤ 256) (h2 : 1 ≤ L ∧ L ≤ F) (h3 : 1 ≤ S ∧ S ≤ 256) (h4 : 1 ≤ C ∧ C ≤ 16) (h5 : C < Q ∧ Q ≤ 32) (h6 : 1 ≤ M ∧ M ≤ 64) (h7 : C < mn) (h8 : mn < lo) (h9 : lo < hi) (h10 : ¬ (hi ≤ F - 12 - (Q + 7) / 8)) : Calls Tryz.prog 54 #[cfgV F L S C Q mn lo hi M] w fun e w' => e = .returned (fitV mn lo hi 8) ∧ Below w.heap.size w w' := by
  obtain ⟨h1a, h1b⟩ := h1
  obtain ⟨h2a, h2b⟩ := h2
  obtain ⟨h3a, h3b⟩ := h3
  obtain ⟨h4a, h4b⟩ := h4
  obtain ⟨h5a, h5b⟩ := h5
  obtain ⟨h6a, h6b⟩ := h6
  have e1 : (Q + 7).tdiv 8 = (Q + 7) / 8 := Int.tdiv_eq_ediv_of_nonneg (by omega)
  unfold cfgV
  go_enter Tryz.func54, Tryz.ntmps54
  go_wp2_with (first
    | (go_at_call 78; refine (rIn_true _ _ _ _ (by omega) (by omega)).mono ?_; rintro e w1 ⟨rfl, rfl⟩)
    | (go_at_call 78; refine (rIn_false _ _ _ _ (by omega)).mono ?_; rintro e w1 ⟨rfl, rfl⟩))
  refine bodyPost_ret (v := fitV mn lo hi 8) (by simp [results, Tryz.results54, go_sem, fitV, marksV]) rfl ?_
  exact ⟨rfl, (by repeat' (first | with_reducible exact Below.refl _ _ | with_reducible assumption | with_reducible apply Below.drew | with_reducible apply below_drewN | with_reducible apply Below.alloc | with_reducible apply Below.setCell | (with_reducible refine Below.trans ?_ (Below.mono (by assumption) ?_)) | (simp; done) | (simp; omega) | omega | with_reducible apply le_size_alloc | with_reducible apply le_size_drewN | with_reducible apply le_size_drew | with_reducible apply le_size_setCell | refine Nat.le_trans ?_ (Below.size (by assumption))))⟩

set_option maxRecDepth 100000 in
set_option maxHeartbeats 4000000 in
theorem rFit_11 (F L S C Q mn lo hi M : Int) (w : World) (h1 : 16 ≤ F ∧ F ≤ 256) (h2 : 1 ≤ L ∧ L ≤ F) (h3 : 1 ≤ S ∧ S ≤ 256) (h4 : 1 ≤ C ∧ C ≤ 16) (h5 : C < Q ∧ Q ≤ 32) (h6 : 1 ≤ M ∧ M ≤ 64) (h7 : C < mn) (h8 : mn < lo) (h9 : lo < hi) (h10 : hi ≤ F - 12 - (Q + 7) / 8) : Calls Tryz.prog 54 #[cfgV F L S C Q mn lo hi M] w fun e w' => e = .returned (fitV mn lo hi 0) ∧ Below w.heap.size w w' := by
  obtain ⟨h1a, h1b⟩ := h1
  obtain ⟨h2a, h2b⟩ := h2
  obtain ⟨h3a, h3b⟩ := h3
  obtain ⟨h4a, h4b⟩ := h4
  obtain ⟨h5a, h5b⟩ := h5
  obtain ⟨h6a, h6b⟩ := h6
  have e1 : (Q + 7).tdiv 8 = (Q + 7) / 8 := Int.tdiv_eq_ediv_of_nonneg (by omega)
  unfold cfgV
  go_enter Tryz.func54, Tryz.ntmps54
  go_wp2_with (first
    | (go_at_call 78; refine (rIn_true _ _ _ _ (by omega) (by omega)).mono ?_; rintro e w1 ⟨rfl, rfl⟩)
    | (go_at_call 78; refine (rIn_false _ _ _ _ (by omega)).mono ?_; rintro e w1 ⟨rfl, rfl⟩))
  refine bodyPost_ret (v := fitV mn lo hi 0) (by simp [results, Tryz.results54, go_sem, fitV, marksV]) rfl ?_
  exact ⟨rfl, (by repeat' (first | with_reducible exact Below.refl _ _ | with_reducible assumption | with_reducible apply Below.drew | with_reducible apply below_drewN | with_reducible apply Below.alloc | with_reducible apply Below.setCell | (with_reducible refine Below.trans ?_ (Below.mono (by assumption) ?_)) | (simp; done) | (simp; omega) | omega | with_reducible apply le_size_alloc | with_reducible apply le_size_drewN | with_reducible apply le_size_drew | with_reducible apply le_size_setCell | refine Nat.le_trans ?_ (Below.size (by assumption))))⟩

theorem rFit_any (F L S C Q mn lo hi M : Int) (w : World) : Calls Tryz.prog 54 #[cfgV F L S C Q mn lo hi M] w fun e w' => e = .returned (fitV mn lo hi (fitE F L S C Q mn lo hi M)) ∧ Below w.heap.size w w' := by
  unfold fitE
  by_cases h1 : 16 ≤ F ∧ F ≤ 256
  rotate_left
  · rw [if_neg (fun h => h1 h.1)]
    exact rFit_1 F L S C Q mn lo hi M w h1
  by_cases h2 : 1 ≤ L ∧ L ≤ F
  rotate_left
  · rw [if_neg (fun h => h2 h.2.1)]
    exact rFit_2 F L S C Q mn lo hi M w h1 h2
  by_cases h3 : 1 ≤ S ∧ S ≤ 256
  rotate_left
  · rw [if_neg (fun h => h3 h.2.2.1)]
    exact rFit_3 F L S C Q mn lo hi M w h1 h2 h3
  by_cases h4 : 1 ≤ C ∧ C ≤ 16
  rotate_left
  · rw [if_neg (fun h => h4 h.2.2.2.1)]
    exact rFit_4 F L S C Q mn lo hi M w h1 h2 h3 h4
  by_cases h5 : C < Q ∧ Q ≤ 32
  rotate_left
  · rw [if_neg (fun h => h5 h.2.2.2.2.1)]
    exact rFit_5 F L S C Q mn lo hi M w h1 h2 h3 h4 h5
  by_cases h6 : 1 ≤ M ∧ M ≤ 64
  rotate_left
  · rw [if_neg (fun h => h6 h.2.2.2.2.2)]
    exact rFit_6 F L S C Q mn lo hi M w h1 h2 h3 h4 h5 h6
  rw [if_pos ⟨h1, h2, h3, h4, h5, h6⟩]
  by_cases h7 : C < mn
  rotate_left
  · rw [if_neg (fun h => h7 h.1)]
    exact rFit_7 F L S C Q mn lo hi M w h1 h2 h3 h4 h5 h6 h7
  by_cases h8 : mn < lo
  rotate_left
  · rw [if_neg (fun h => h8 h.2.1)]
    exact rFit_8 F L S C Q mn lo hi M w h1 h2 h3 h4 h5 h6 h7 h8
  by_cases h9 : lo < hi
  rotate_left
  · rw [if_neg (fun h => h9 h.2.2.1)]
    exact rFit_9 F L S C Q mn lo hi M w h1 h2 h3 h4 h5 h6 h7 h8 h9
  by_cases h10 : hi ≤ F - 12 - (Q + 7) / 8
  rotate_left
  · rw [if_neg (fun h => h10 h.2.2.2)]
    exact rFit_10 F L S C Q mn lo hi M w h1 h2 h3 h4 h5 h6 h7 h8 h9 h10
  rw [if_pos ⟨h7, h8, h9, h10⟩]
  exact rFit_11 F L S C Q mn lo hi M w h1 h2 h3 h4 h5 h6 h7 h8 h9 h10
end Go.Proofs.YtmbpjafiinfkkaaGreatDoor
