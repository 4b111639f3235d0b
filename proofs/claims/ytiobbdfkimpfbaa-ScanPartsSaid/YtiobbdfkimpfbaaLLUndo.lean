/- LruUndo: the statement holds for every list of numbers and every number. -/
import Derived.Test.YtiobbdfkimpfbaaLruM
import Derived.Test.YtiobbdfkimpfbaaClose
namespace Go.Proofs.Ytiobbdfkimpfbaa
set_option linter.unusedSimpArgs false
set_option linter.unusedVariables false
open Go.RowKit Go.Maps
open Go.ChangeShapes Go.WideShapes Go.ChangeAt Go.Joins

theorem Md.wf {k : Nat} {xs ys : List Int} {rs : List Bool} (h : Md k xs ys rs) : (∀ x ∈ xs, (Lit.int .i64 x).wf = true) ∧ (∀ x ∈ ys, (Lit.int .i64 x).wf = true) := by
  have hh : ∀ x ∈ xs ++ ys, (Lit.int .i64 x).wf = true := fun x hx => by
    obtain ⟨j, _, rfl⟩ := h.from_ x hx
    have := fr_bd j
    exact WalkArith.wf_i64 (by omega)
  exact ⟨fun x hx => hh x (by simp [hx]), fun x hx => hh x (by simp [hx])⟩
theorem chk_of {xs ys : List Int} {rs : List Bool} (h1 : 1 ≤ rs.length) (h2 : rs.length ≤ 256) (hr : ∀ x ∈ xs ++ ys, 0 ≤ x ∧ x < rs.length) (hn : (xs ++ ys).Nodup) (hb : ∀ k : Nat, rs[k]? = some true → (k : Int) ∈ xs ++ ys) : lruChk xs ys rs = 0 :=
  lruChk_ok (by omega) (lruScan_none _ _ _ hr hn (fun _ _ => by simp)) hb
theorem chd_of {xs ys : List Int} {rs : List Bool} {f : Int} (h : lruChk xs ys rs = 0) (h0 : 0 ≤ f) (h1 : f < rs.length) : lruChd xs ys rs f = 0 := by
  unfold lruChd; rw [h, if_neg (by simp), if_pos ⟨h0, h1⟩]
theorem fWhere_zero {xs ys : List Int} {f : Int} (h : fWhere xs ys f = 0) : f ∉ xs ∧ f ∉ ys := by
  unfold fWhere at h
  constructor
  · intro hm; rw [if_pos hm] at h; cases h
  · intro hm
    by_cases h1 : f ∈ xs
    · rw [if_pos h1] at h; cases h
    · rw [if_neg h1, if_pos hm] at h; cases h
theorem set_same {rs : List Bool} {m : Nat} (h : rs[m]? ≠ some true) : rs.set m false = rs := by
  apply List.ext_getElem?
  intro j
  rw [List.getElem?_set]
  by_cases e : m = j
  · subst e
    rw [if_pos rfl]
    cases hx : rs[m]? with
    | none => rw [List.getElem?_eq_none_iff] at hx; rw [if_neg (by omega)]
    | some b =>
      have := (List.getElem?_eq_some_iff.1 hx).1
      rw [if_pos this]
      cases b
      · rfl
      · exact absurd hx h
  · rw [if_neg e]

end Go.Proofs.Ytiobbdfkimpfbaa
