/- Contracts of the package lru: where a frame is. -/
import Derived.Test.YtifimhfdapkpoaaLru3
namespace Go.Proofs.Ytifimhfdapkpoaa
open Go.RowKit Go.Maps

/-- The place of a number in a list, or -1. -/
def ixOf (xs : List Int) (x : Int) : Int := if x ∈ xs then (xs.idxOf x : Int) else -1
theorem ixOf_at {xs : List Int} {x : Int} {k : Nat} (h : xs[k]? = some x) (hn : ∀ m, m < k → xs[m]? ≠ some x) : ixOf xs x = k := by
  obtain ⟨hk, e⟩ := List.getElem?_eq_some_iff.1 h
  have hm : x ∈ xs := List.mem_of_getElem? h
  have h1 : xs.idxOf x < xs.length := List.idxOf_lt_length_of_mem hm
  have h2 : xs[xs.idxOf x]? = some x := by rw [List.getElem?_eq_getElem h1]; simp
  have h3 : ¬ xs.idxOf x < k := fun h => hn _ h h2
  have h4 : ¬ k < xs.idxOf x := fun h => by
    have := List.not_of_lt_findIdx (p := fun y => y == x) (xs := xs) (i := k) (by simpa [List.idxOf] using h)
    simp [e] at this
  unfold ixOf; rw [if_pos hm]; omega
theorem ixOf_no {xs : List Int} {x : Int} (hn : ∀ m : Nat, m < xs.length → xs[m]? ≠ some x) : ixOf xs x = -1 := by
  unfold ixOf
  refine if_neg fun hm => ?_
  have h1 : xs.idxOf x < xs.length := List.idxOf_lt_length_of_mem hm
  exact hn _ h1 (by rw [List.getElem?_eq_getElem h1]; simp)
theorem ixOf_bd (xs : List Int) (x : Int) : (x ∈ xs ∧ 0 ≤ ixOf xs x ∧ ixOf xs x < xs.length) ∨ (x ∉ xs ∧ ixOf xs x = -1) := by
  unfold ixOf
  by_cases h : x ∈ xs
  · left; rw [if_pos h]; have := List.idxOf_lt_length_of_mem h; exact ⟨h, by omega, by omega⟩
  · right; rw [if_neg h]; exact ⟨h, rfl⟩

/-- In which list a frame is (1, 2, or 0), and its place there. -/
def fWhere (xs ys : List Int) (f : Int) : Int := if f ∈ xs then 1 else if f ∈ ys then 2 else 0
def fPlace (xs ys : List Int) (f : Int) : Int := if f ∈ xs then ixOf xs f else if f ∈ ys then ixOf ys f else 0

/-- The error of lists, then that of a frame. -/
def lruChd (xs ys : List Int) (rs : List Bool) (f : Int) : Int := if lruChk xs ys rs ≠ 0 then lruChk xs ys rs else if 0 ≤ f ∧ f < rs.length then 0 else 2

theorem chd_ok {xs ys : List Int} {rs : List Bool} {f : Int} (h : lruChd xs ys rs f = 0) : lruChk xs ys rs = 0 ∧ 0 ≤ f ∧ f < rs.length := by
  unfold lruChd at h
  by_cases h1 : lruChk xs ys rs ≠ 0
  · rw [if_pos h1] at h; exact absurd h h1
  · rw [if_neg h1] at h
    by_cases h2 : 0 ≤ f ∧ f < rs.length
    · exact ⟨by simpa using h1, h2⟩
    · rw [if_neg h2] at h; cases h

/-- What Where gives back. -/
def whereR (xs ys : List Int) (rs : List Bool) (f : Int) : Value :=
  if lruChd xs ys rs f ≠ 0 then .tuple #[.int .i64 0, .int .i64 (lruChd xs ys rs f)] else .tuple #[.int .i64 (fWhere xs ys f), .int .i64 0]

end Go.Proofs.Ytifimhfdapkpoaa
