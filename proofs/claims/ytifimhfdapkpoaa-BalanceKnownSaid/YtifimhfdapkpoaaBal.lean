/- Contracts of the package balance and of the small functions of its statements. -/
import Derived.Test.YtifimhfdapkpoaaLru
import Derived.Test.YtifimhfdapkpoaaKit
namespace Go.Proofs.Ytifimhfdapkpoaa
open Go.RowKit Go.Maps

def rat (n : Int) : Int := if 256 ≤ n then 8 else if 196 ≤ n then 7 else if 144 ≤ n then 6 else if 100 ≤ n then 5 else if 64 ≤ n then 4 else if 36 ≤ n then 3 else if 16 ≤ n then 2 else 1
def sqOk (k n : Int) : Prop := (k ≤ 1 ∨ 4 * (k - 1) * (k - 1) ≤ n)
def tgt (n : Int) : Int := (n + rat n) / (rat n + 1)
theorem rat_bd (n : Int) : 1 ≤ rat n ∧ rat n ≤ 8 := by unfold rat; repeat' split
                                                       all_goals omega

set_option maxHeartbeats 400000 in
theorem ratio_any (n : Int) (w : World) (h0 : 0 ≤ n) (h1 : n ≤ 256) :
    Calls Try.prog 33 #[.int .i64 n] w fun e w' => e = .returned (.int .i64 (rat n)) ∧ w = w' := by
  go_enter Try.func33, Try.ntmps33
  go_wp2
  go_step3
  go_wp2
  go_step3
  go_wp2
  go_loop [3, 5] (fun t i => ∃ k : Int, 0 ≤ k ∧ k ≤ 9 ∧ i = .int .i64 k ∧ t = .int .i64 (if k ≤ 2 then 1 else k - 1) ∧ Hid (sqOk k n)) (fun _ i => 20 - (intOf i).toNat)
  case atStart => exact ⟨0, by omega, by omega, rfl, rfl, .inl (by omega)⟩
  case round =>
    obtain ⟨k, hk0, hk, rfl, rfl, H⟩ := hrel
    rcases (by omega : k = 0 ∨ k = 1 ∨ k = 2 ∨ k = 3 ∨ k = 4 ∨ k = 5 ∨ k = 6 ∨ k = 7 ∨ k = 8 ∨ k = 9) with rfl | rfl | rfl | rfl | rfl | rfl | rfl | rfl | rfl | rfl
    all_goals
      go_wp2
    all_goals first
      | (go_ret
         have h2 := H.out
         simp only [sqOk] at h2
         refine ⟨ret_int ?_, rfl⟩
         unfold rat
         repeat' split
         all_goals omega)
      | (refine ⟨⟨_, ?_, ?_, rfl, rfl, Or.inr ?_⟩, by simp [intOf]⟩ <;> omega)

set_option maxHeartbeats 400000 in
theorem refratio_any (n : Int) (w : World) (h0 : 0 ≤ n) (h1 : n ≤ 256) :
    Calls Try.prog 35 #[.int .i64 n] w fun e w' => e = .returned (.int .i64 (rat n)) ∧ w = w' := by
  go_enter Try.func35, Try.ntmps35
  go_wp2
  go_loop [3] (fun i => ∃ k : Int, 1 ≤ k ∧ k ≤ 8 ∧ i = .int .i64 k ∧ Hid (k = 1 ∨ 4 * k * k ≤ n)) (fun i => 20 - (intOf i).toNat)
  case atStart => exact ⟨1, by omega, by omega, rfl, .inl (by omega)⟩
  case round =>
    obtain ⟨k, hk0, hk, rfl, H⟩ := hrel
    rcases (by omega : k = 1 ∨ k = 2 ∨ k = 3 ∨ k = 4 ∨ k = 5 ∨ k = 6 ∨ k = 7 ∨ k = 8) with rfl | rfl | rfl | rfl | rfl | rfl | rfl | rfl
    all_goals
      go_wp2
    all_goals first
      | (go_ret
         have h2 := H.out
         refine ⟨ret_int ?_, rfl⟩
         unfold rat
         repeat' split
         all_goals omega)
      | (refine ⟨⟨_, ?_, ?_, rfl, Or.inr ?_⟩, by simp [intOf]⟩ <;> omega)

set_option maxHeartbeats 400000 in
theorem target_any (n : Int) (w : World) (h0 : 0 ≤ n) (h1 : n ≤ 256) :
    Calls Try.prog 34 #[.int .i64 n] w fun e w' => e = .returned (.int .i64 (tgt n)) ∧ w = w' := by
  have hb := rat_bd n
  obtain ⟨hb1, hb2⟩ := hb
  go_enter Try.func34, Try.ntmps34
  go_wp2_with (go_at_call 33; refine (ratio_any _ _ (by omega) (by omega)).mono ?_; rintro e w' ⟨rfl, rfl⟩)
  go_ret
  exact ⟨ret_int (by unfold tgt; congr 1; omega), rfl⟩

set_option maxHeartbeats 400000 in
theorem Ratio_any (n : Int) (w : World) :
    Calls Try.prog 10 #[.int .i64 n] w fun e w' =>
      e = .returned (if 0 ≤ n ∧ n ≤ 256 then .tuple #[.int .i64 (rat n), .int .i64 0] else .tuple #[.int .i64 0, .int .i64 2]) ∧ w = w' := by
  by_cases h0 : 0 ≤ n
  · by_cases h1 : n ≤ 256
    · rw [if_pos ⟨h0, h1⟩]
      go_enter Try.func10, Try.ntmps10
      go_wp2_with (first | (go_at_call 33; refine (ratio_any _ _ (by omega) (by omega)).mono ?_; rintro e w' ⟨rfl, rfl⟩) | go_in)
      go_ret2
      exact ⟨rfl, rfl⟩
    · rw [if_neg (by omega)]
      go_enter Try.func10, Try.ntmps10
      go_wp2
      go_ret2
      exact ⟨rfl, rfl⟩
  · rw [if_neg (by omega)]
    go_enter Try.func10, Try.ntmps10
    go_wp2
    go_ret2
    exact ⟨rfl, rfl⟩

set_option maxHeartbeats 400000 in
theorem reftarget_any (n : Int) (w : World) (h0 : 0 ≤ n) (h1 : n ≤ 256) :
    Calls Try.prog 36 #[.int .i64 n] w fun e w' => e = .returned (.int .i64 (tgt n)) ∧ w = w' := by
  have hb := rat_bd n
  obtain ⟨hb1, hb2⟩ := hb
  go_enter Try.func36, Try.ntmps36
  go_wp2_with (go_at_call 35; refine (refratio_any _ _ (by omega) (by omega)).mono ?_; rintro e w' ⟨rfl, rfl⟩)
  go_ret
  exact ⟨ret_int (by unfold tgt; congr 1; omega), rfl⟩

set_option maxHeartbeats 400000 in
theorem Target_any (n : Int) (w : World) :
    Calls Try.prog 11 #[.int .i64 n] w fun e w' =>
      e = .returned (if 0 ≤ n ∧ n ≤ 256 then .tuple #[.int .i64 (tgt n), .int .i64 0] else .tuple #[.int .i64 0, .int .i64 2]) ∧ w = w' := by
  by_cases h0 : 0 ≤ n
  · by_cases h1 : n ≤ 256
    · rw [if_pos ⟨h0, h1⟩]
      go_enter Try.func11, Try.ntmps11
      go_wp2_with (first | (go_at_call 34; refine (target_any _ _ (by omega) (by omega)).mono ?_; rintro e w' ⟨rfl, rfl⟩) | go_in)
      go_ret2
      exact ⟨rfl, rfl⟩
    · rw [if_neg (by omega)]
      go_enter Try.func11, Try.ntmps11
      go_wp2
      go_ret2
      exact ⟨rfl, rfl⟩
  · rw [if_neg (by omega)]
    go_enter Try.func11, Try.ntmps11
    go_wp2
    go_ret2
    exact ⟨rfl, rfl⟩

set_option maxHeartbeats 400000 in
theorem refRatio_any (n : Int) (w : World) :
    Calls Try.prog 14 #[.int .i64 n] w fun e w' =>
      e = .returned (if 0 ≤ n ∧ n ≤ 256 then .tuple #[.int .i64 (rat n), .int .i64 0] else .tuple #[.int .i64 0, .int .i64 2]) ∧ w = w' := by
  by_cases h0 : 0 ≤ n
  · by_cases h1 : n ≤ 256
    · rw [if_pos ⟨h0, h1⟩]
      go_enter Try.func14, Try.ntmps14
      go_wp2_with (first | (go_at_call 35; refine (refratio_any _ _ (by omega) (by omega)).mono ?_; rintro e w' ⟨rfl, rfl⟩) | go_in)
      go_ret2
      exact ⟨rfl, rfl⟩
    · rw [if_neg (by omega)]
      go_enter Try.func14, Try.ntmps14
      go_wp2
      go_ret2
      exact ⟨rfl, rfl⟩
  · rw [if_neg (by omega)]
    go_enter Try.func14, Try.ntmps14
    go_wp2
    go_ret2
    exact ⟨rfl, rfl⟩

set_option maxHeartbeats 400000 in
theorem refTarget_any (n : Int) (w : World) :
    Calls Try.prog 15 #[.int .i64 n] w fun e w' =>
      e = .returned (if 0 ≤ n ∧ n ≤ 256 then .tuple #[.int .i64 (tgt n), .int .i64 0] else .tuple #[.int .i64 0, .int .i64 2]) ∧ w = w' := by
  by_cases h0 : 0 ≤ n
  · by_cases h1 : n ≤ 256
    · rw [if_pos ⟨h0, h1⟩]
      go_enter Try.func15, Try.ntmps15
      go_wp2_with (first | (go_at_call 36; refine (reftarget_any _ _ (by omega) (by omega)).mono ?_; rintro e w' ⟨rfl, rfl⟩) | go_in)
      go_ret2
      exact ⟨rfl, rfl⟩
    · rw [if_neg (by omega)]
      go_enter Try.func15, Try.ntmps15
      go_wp2
      go_ret2
      exact ⟨rfl, rfl⟩
  · rw [if_neg (by omega)]
    go_enter Try.func15, Try.ntmps15
    go_wp2
    go_ret2
    exact ⟨rfl, rfl⟩

/-- What Part gives back. -/
def partR (n num den : Int) : Value :=
  if 0 ≤ n ∧ n ≤ 256 ∧ 1 ≤ den ∧ den ≤ 1000 ∧ 0 ≤ num ∧ num ≤ den then .tuple #[.int .i64 ((2 * n * num + den) / (2 * den)), .int .i64 0] else .tuple #[.int .i64 0, .int .i64 2]

set_option maxHeartbeats 1000000 in
theorem Part_any (n num den : Int) (w : World) :
    Calls Try.prog 13 #[.int .i64 n, .int .i64 num, .int .i64 den] w fun e w' => e = .returned (partR n num den) ∧ w = w' := by
  by_cases h : 0 ≤ n ∧ n ≤ 256 ∧ 1 ≤ den ∧ den ≤ 1000 ∧ 0 ≤ num ∧ num ≤ den
  · rw [partR, if_pos h]
    obtain ⟨h0, h1, h2, h3, h4, h5⟩ := h
    have hm1 : 0 ≤ 2 * n * num := Int.mul_nonneg (by omega) h4
    have hm2 : 2 * n * num ≤ 512 * 1000 := Int.mul_le_mul (by omega) (by omega) h4 (by omega)
    go_enter Try.func13, Try.ntmps13
    go_wp2
    go_ret2
    exact ⟨rfl, rfl⟩
  · rw [partR, if_neg h]
    by_cases h0 : 0 ≤ n
    · by_cases h1 : n ≤ 256
      · by_cases h2 : 1 ≤ den
        · by_cases h3 : den ≤ 1000
          · by_cases h4 : 0 ≤ num
            · have h5 : den < num := by omega
              clear h
              go_enter Try.func13, Try.ntmps13
              go_wp2
              go_ret2
              exact ⟨rfl, rfl⟩
            all_goals
              clear h
              go_enter Try.func13, Try.ntmps13
              go_wp2
              go_ret2
              exact ⟨rfl, rfl⟩
          all_goals
            clear h
            go_enter Try.func13, Try.ntmps13
            go_wp2
            go_ret2
            exact ⟨rfl, rfl⟩
        all_goals
          clear h
          go_enter Try.func13, Try.ntmps13
          go_wp2
          go_ret2
          exact ⟨rfl, rfl⟩
      all_goals
        clear h
        go_enter Try.func13, Try.ntmps13
        go_wp2
        go_ret2
        exact ⟨rfl, rfl⟩
    all_goals
      clear h
      go_enter Try.func13, Try.ntmps13
      go_wp2
      go_ret2
      exact ⟨rfl, rfl⟩

set_option maxHeartbeats 1000000 in
theorem refPart_any (n num den : Int) (w : World) :
    Calls Try.prog 16 #[.int .i64 n, .int .i64 num, .int .i64 den] w fun e w' => e = .returned (partR n num den) ∧ w = w' := by
  by_cases h : 0 ≤ n ∧ n ≤ 256 ∧ 1 ≤ den ∧ den ≤ 1000 ∧ 0 ≤ num ∧ num ≤ den
  · rw [partR, if_pos h]
    obtain ⟨h0, h1, h2, h3, h4, h5⟩ := h
    have hm1 : 0 ≤ 2 * n * num := Int.mul_nonneg (by omega) h4
    have hm2 : 2 * n * num ≤ 512 * 1000 := Int.mul_le_mul (by omega) (by omega) h4 (by omega)
    go_enter Try.func16, Try.ntmps16
    go_wp2
    go_ret2
    exact ⟨rfl, rfl⟩
  · rw [partR, if_neg h]
    by_cases h0 : 0 ≤ n
    · by_cases h1 : n ≤ 256
      · by_cases h2 : 1 ≤ den
        · by_cases h3 : den ≤ 1000
          · by_cases h4 : 0 ≤ num
            · have h5 : den < num := by omega
              clear h
              go_enter Try.func16, Try.ntmps16
              go_wp2
              go_ret2
              exact ⟨rfl, rfl⟩
            all_goals
              clear h
              go_enter Try.func16, Try.ntmps16
              go_wp2
              go_ret2
              exact ⟨rfl, rfl⟩
          all_goals
            clear h
            go_enter Try.func16, Try.ntmps16
            go_wp2
            go_ret2
            exact ⟨rfl, rfl⟩
        all_goals
          clear h
          go_enter Try.func16, Try.ntmps16
          go_wp2
          go_ret2
          exact ⟨rfl, rfl⟩
      all_goals
        clear h
        go_enter Try.func16, Try.ntmps16
        go_wp2
        go_ret2
        exact ⟨rfl, rfl⟩
    all_goals
      clear h
      go_enter Try.func16, Try.ntmps16
      go_wp2
      go_ret2
      exact ⟨rfl, rfl⟩
end Go.Proofs.Ytifimhfdapkpoaa
