/- The length of what the functions of lru give back; the test for short lists. -/
import Derived.Test.YtjilfijpepbfeaaRef5
import Derived.Test.YtjilfijpepbfeaaCloseL
import Derived.Test.YtjilfijpepbfeaaLLUndo
namespace Go.Proofs.Ytjilfijpepbfeaa
open Go.RowKit Go.Maps
open Go.ChangeShapes Go.WideShapes Go.ChangeAt Go.Joins

set_option maxHeartbeats 400000 in
theorem light_any (Aa Ai Ar : Option Addr) (na ni nr ca ci cr : Nat) (w : World) (h1 : na ≤ 9223372036854775807) (h2 : ni ≤ 9223372036854775807) (h3 : nr ≤ 9223372036854775807) :
    Calls Try.prog 10 #[.agg #[.slice Aa na ca, .slice Ai ni ci, .slice Ar nr cr]] w fun e w' => e = .returned (.bool (decide (na ≤ 260 ∧ ni ≤ 260 ∧ nr ≤ 260))) ∧ Below w.heap.size w w' := by
  by_cases a1 : na ≤ 260
  · by_cases a2 : ni ≤ 260
    · by_cases a3 : nr ≤ 260
      all_goals
        go_enter Try.func10, Try.ntmps10
        go_wp2
        go_ret
        exact ⟨ret_bool (by first | (simp [*]; done) | (rw [Bool.eq_iff_iff]; simp [*]; omega) | (rw [Bool.eq_iff_iff]; simp; omega)), (by repeat' (first | with_reducible exact Below.refl _ _ | with_reducible assumption | with_reducible apply Below.drew | with_reducible apply below_drewN | with_reducible apply Below.alloc | with_reducible apply Below.setCell | (with_reducible refine Below.trans ?_ (Below.mono (by assumption) ?_)) | (simp; done) | (simp; omega) | omega | with_reducible apply le_size_alloc | with_reducible apply le_size_drewN | with_reducible apply le_size_drew | with_reducible apply le_size_setCell | refine Nat.le_trans ?_ (Below.size (by assumption))))⟩
    · go_enter Try.func10, Try.ntmps10
      go_wp2
      go_ret
      exact ⟨ret_bool (by first | (simp [*]; done) | (rw [Bool.eq_iff_iff]; simp [*]; omega) | (rw [Bool.eq_iff_iff]; simp; omega)), (by repeat' (first | with_reducible exact Below.refl _ _ | with_reducible assumption | with_reducible apply Below.drew | with_reducible apply below_drewN | with_reducible apply Below.alloc | with_reducible apply Below.setCell | (with_reducible refine Below.trans ?_ (Below.mono (by assumption) ?_)) | (simp; done) | (simp; omega) | omega | with_reducible apply le_size_alloc | with_reducible apply le_size_drewN | with_reducible apply le_size_drew | with_reducible apply le_size_setCell | refine Nat.le_trans ?_ (Below.size (by assumption))))⟩
  · go_enter Try.func10, Try.ntmps10
    go_wp2
    go_ret
    exact ⟨ret_bool (by first | (simp [*]; done) | (rw [Bool.eq_iff_iff]; simp [*]; omega) | (rw [Bool.eq_iff_iff]; simp; omega)), (by repeat' (first | with_reducible exact Below.refl _ _ | with_reducible assumption | with_reducible apply Below.drew | with_reducible apply below_drewN | with_reducible apply Below.alloc | with_reducible apply Below.setCell | (with_reducible refine Below.trans ?_ (Below.mono (by assumption) ?_)) | (simp; done) | (simp; omega) | omega | with_reducible apply le_size_alloc | with_reducible apply le_size_drewN | with_reducible apply le_size_drew | with_reducible apply le_size_setCell | refine Nat.le_trans ?_ (Below.size (by assumption))))⟩

/-- Lists that are not long. -/
structure LR.Small (R : LR) : Prop where
  x : R.xs.length ≤ 1000
  y : R.ys.length ≤ 1000
  r : R.rs.length ≤ 1000
theorem LR.small_bad (z : Int) : (LR.bad z).Small := ⟨by simp [LR.bad], by simp [LR.bad], by simp [LR.bad]⟩
theorem LR.small_ok {xs ys : List Int} {rs : List Bool} (h : lruChk xs ys rs = 0) (z : Int) : (LR.mk xs ys rs z).Small := by
  have hv := valid_of_chk h
  have h1 := hv.len
  have h2 := hv.hi
  exact ⟨by show xs.length ≤ _; omega, by show ys.length ≤ _; omega, by show rs.length ≤ _; omega⟩
theorem demS_small (xs ys : List Int) (rs : List Bool) : (demS xs ys rs).Small := by
  unfold demS
  by_cases h0 : lruChk xs ys rs ≠ 0
  · rw [if_pos h0]; exact LR.small_bad _
  · rw [if_neg h0]
    by_cases h1 : xs.length = 0
    · rw [if_pos h1]; exact LR.small_bad _
    · rw [if_neg h1]; exact LR.small_ok (chk_dem (valid_of_chk (by simpa using h0)) (by omega) _) _
theorem proS_small (xs ys : List Int) (rs : List Bool) : (proS xs ys rs).Small := by
  unfold proS
  by_cases h0 : lruChk xs ys rs ≠ 0
  · rw [if_pos h0]; exact LR.small_bad _
  · rw [if_neg h0]
    by_cases h1 : ys.length = 0
    · rw [if_pos h1]; exact LR.small_bad _
    · rw [if_neg h1]; exact LR.small_ok (chk_pro (valid_of_chk (by simpa using h0)) (by omega) _) _
theorem addS_small (xs ys : List Int) (rs : List Bool) (f : Int) : (addS xs ys rs f).Small := by
  unfold addS
  by_cases h0 : lruChd xs ys rs f ≠ 0
  · rw [if_pos h0]; exact LR.small_bad _
  · rw [if_neg h0]
    by_cases h1 : fWhere xs ys f ≠ 0
    · rw [if_pos h1]; exact LR.small_bad _
    · rw [if_neg h1]
      obtain ⟨hk, f0, f1⟩ := chd_ok (by simpa using h0)
      obtain ⟨n1, n2⟩ := fWhere_zero (by simpa using h1)
      exact LR.small_ok (chk_add (valid_of_chk hk) (by simp [n1, n2]) f0 f1) _
theorem remS_small (xs ys : List Int) (rs : List Bool) (f : Int) : (remS xs ys rs f).Small := by
  unfold remS
  by_cases h0 : lruChd xs ys rs f ≠ 0
  · rw [if_pos h0]; exact LR.small_bad _
  · rw [if_neg h0]
    by_cases h1 : fWhere xs ys f = 0
    · rw [if_pos h1]; exact LR.small_bad _
    · rw [if_neg h1]
      obtain ⟨hk, f0, f1⟩ := chd_ok (by simpa using h0)
      exact LR.small_ok (chk_rem (valid_of_chk hk) f0) _
theorem touS_small (xs ys : List Int) (rs : List Bool) (f : Int) : (touS xs ys rs f).Small := by
  unfold touS
  by_cases h0 : lruChd xs ys rs f ≠ 0
  · rw [if_pos h0]; exact LR.small_bad _
  · rw [if_neg h0]
    by_cases h1 : fWhere xs ys f = 0
    · rw [if_pos h1]; exact LR.small_bad _
    · rw [if_neg h1]
      obtain ⟨hk, f0, f1⟩ := chd_ok (by simpa using h0)
      exact LR.small_ok (chk_touch (valid_of_chk hk) (fWhere_mem h1) f0) _
theorem newS_small (n : Int) : (newS n).Small := by
  unfold newS
  by_cases h : n < 1 ∨ 256 < n
  · rw [if_pos h]; exact LR.small_bad _
  · rw [if_neg h]; exact ⟨by simp, by simp, by simp; omega⟩
theorem ordL_small (xs ys : List Int) (rs : List Bool) : (ordL xs ys rs).length ≤ 1000 := by
  unfold ordL
  by_cases h0 : lruChk xs ys rs ≠ 0
  · rw [if_pos h0]; simp
  · rw [if_neg h0]
    have hv := valid_of_chk (by simpa using h0)
    have h1 := hv.len
    have h2 := hv.hi
    simp; omega
end Go.Proofs.Ytjilfijpepbfeaa
