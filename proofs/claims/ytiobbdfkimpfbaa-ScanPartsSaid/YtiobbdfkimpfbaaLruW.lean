/- Contracts of small functions on lists of the statements of lru: without, bits, Has, size. -/
import Derived.Test.YtiobbdfkimpfbaaLruM
namespace Go.Proofs.Ytiobbdfkimpfbaa
set_option linter.unusedSimpArgs false
set_option linter.unusedVariables false
open Go.RowKit Go.Maps

/-- A list without a number. -/
def wo (n : Int) (xs : List Int) : List Int := xs.filter (· != n)
theorem wo_len (n : Int) (xs : List Int) : (wo n xs).length ≤ xs.length := List.length_filter_le _ _
theorem wo_keep {n x : Int} {xs : List Int} (h : x ≠ n) : wo n (xs ++ [x]) = wo n xs ++ [x] := by simp [wo, List.filter_append, h]
theorem wo_drop {n x : Int} {xs : List Int} (h : x = n) : wo n (xs ++ [x]) = wo n xs := by simp [wo, List.filter_append, h]

theorem Own.sl_ {α : Type} {w : World} {base : Nat} {E : TypeId} {mk : α → Value} {A : Option Addr} {n c : Nat} {xs : List α} (h : Own w base E mk (.slice A n c) xs) : Sl w mk A xs := by
  obtain ⟨A', c', e, hs⟩ := h.sl
  injection e with e
  subst e
  exact hs
/-- A new row that reads as ys. -/
def NewPost (ys : List Int) (w : World) (e : Ending) (w' : World) : Prop :=
  ∃ A c, e = .returned (.slice A ys.length c) ∧ Own w' w.heap.size 3 (.int .i64) (.slice A ys.length c) ys ∧ Below w.heap.size w w'

end Go.Proofs.Ytiobbdfkimpfbaa
