/- What a claim makes of a valid list, in plain words. -/
import Derived.Test.YtnglompninkmbaaHeldD
namespace Go.Proofs.Ytnglompninkmbaa
open Go.RowKit Go.Maps

theorem clm_valid {l : List Wr} {p : Int} (hv : Valid l) (hp : 1 ≤ p ∧ p ≤ 8) : clmS l p = (match l.findIdx? (fun x => decide (x.2.2 = p)) with | none => (-1, 0) | some i => ((i : Int), 0)) := by
  unfold clmS
  rw [if_neg (by rw [chkS_zero hv]; simp), if_pos hp]
  cases l.findIdx? (fun x => decide (x.2.2 = p)) <;> rfl
theorem okW_claim {x : Wr} {p : Int} (h : okW x = true) (hp : 1 ≤ p ∧ p ≤ 8) : okW (x.1, x.2.1, p) = true := by
  unfold okW at h ⊢
  simp only [Bool.and_eq_true, Bool.or_eq_true, decide_eq_true_eq] at h ⊢
  exact ⟨h.1, h.2.1, .inr hp⟩
theorem set_valid {l : List Wr} {k : Nat} {x : Wr} {p : Int} (hv : Valid l) (hx : l[k]? = some x) (hp : 1 ≤ p ∧ p ≤ 8) (hn : ∀ y ∈ l, y.2.2 ≠ p) : Valid (l.set k (x.1, x.2.1, p)) := by
  obtain ⟨hk, rfl⟩ := List.getElem?_eq_some_iff.1 hx
  refine ⟨by simpa using hv.1, fun y hy => ?_, ?_⟩
  · rcases List.mem_or_eq_of_mem_set hy with h | rfl
    · exact hv.2.1 y h
    · exact okW_claim (hv.2.1 _ (List.getElem_mem hk)) hp
  · rw [List.pairwise_iff_getElem]
    intro i j hi hj hij
    simp only [List.length_set] at hi hj
    have h0 := List.pairwise_iff_getElem.1 hv.2.2 i j hi hj hij
    have ni := hn _ (List.getElem_mem hi)
    have nj := hn _ (List.getElem_mem hj)
    unfold apart at h0 ⊢
    simp only [List.getElem_set]
    by_cases e1 : k = i
    · subst e1
      rw [if_pos rfl, if_neg (by omega)]
      exact ⟨h0.1, h0.2.1, .inr (fun e => nj e.symm)⟩
    · rw [if_neg e1]
      by_cases e2 : k = j
      · subst e2
        rw [if_pos rfl]
        exact ⟨h0.1, h0.2.1, .inr ni⟩
      · rw [if_neg e2]
        exact h0
theorem find_set {l : List Wr} {k : Nat} {x : Wr} {p : Int} (hx : l[k]? = some x) (hn : ∀ y ∈ l, y.2.2 ≠ p) : (l.set k (x.1, x.2.1, p)).findIdx? (fun x => decide (x.2.2 = p)) = some k := by
  have hk := (List.getElem?_eq_some_iff.1 hx).1
  rw [List.findIdx?_eq_some_iff_getElem]
  refine ⟨by simpa using hk, by simp, fun j hj => ?_⟩
  have hjl : j < l.length := by omega
  rw [List.getElem_set_ne (by omega)]
  simpa using hn _ (List.getElem_mem hjl)
theorem claim_cases {l : List Wr} {k : Nat} {x : Wr} {p : Int} (hv : Valid l) (hx : l[k]? = some x) (hp : 1 ≤ p ∧ p ≤ 8) :
    ∃ a z o hs, claS l x.1 p = (a, z) ∧ ofS l p = (o, hs, 0) ∧ ((a = [] ∧ z = 9 ∧ x.2.2 ≠ 0) ∨ (a = [] ∧ z = 7 ∧ x.2.2 = 0 ∧ hs = true ∧ o ≠ x) ∨
      (z = 0 ∧ x.2.2 = 0 ∧ hs = false ∧ a = l.set k (x.1, x.2.1, p) ∧ ofS a p = ((x.1, x.2.1, p), true, 0) ∧ uncS a p = (l, true, 0))) := by
  have hgd : l.getD k (0, 0, 0) = x := by rw [List.getD_eq_getElem?_getD, hx]; rfl
  have hfs := findS_at hv hx
  have hcl := clm_valid hv hp
  have hk := (List.getElem?_eq_some_iff.1 hx).1
  cases hq : l.findIdx? (fun x => decide (x.2.2 = p)) with
  | none =>
    rw [hq] at hcl
    have hof : ofS l p = ((0, 0, 0), false, 0) := by unfold ofS; rw [hcl, if_pos (.inr (by decide))]
    by_cases h0 : x.2.2 = 0
    · have hn : ∀ y ∈ l, y.2.2 ≠ p := fun y hy => by
        have := List.findIdx?_eq_none_iff.1 hq y hy
        simpa using this
      refine ⟨l.set k (x.1, x.2.1, p), 0, _, _, ?_, hof, .inr (.inr ⟨rfl, h0, rfl, rfl, ?_, ?_⟩)⟩
      · unfold claS
        rw [hfs, if_neg (by simp), if_pos hp, if_neg (by simp), hgd, if_neg (by simp [h0]), hq]
        rfl
      · have hc := clm_valid (set_valid hv hx hp hn) hp
        rw [find_set hx hn] at hc
        unfold ofS
        rw [hc, if_neg (by simp)]
        show ((l.set k (x.1, x.2.1, p)).getD k (0, 0, 0), true, (0 : Int)) = _
        rw [List.getD_eq_getElem?_getD, List.getElem?_set_self hk]
        rfl
      · have hc := clm_valid (set_valid hv hx hp hn) hp
        rw [find_set hx hn] at hc
        unfold uncS
        rw [hc, if_neg (by simp), if_neg (by simp)]
        show ((l.set k (x.1, x.2.1, p)).set k (((l.set k (x.1, x.2.1, p)).getD k (0, 0, 0)).1, ((l.set k (x.1, x.2.1, p)).getD k (0, 0, 0)).2.1, 0), true, (0 : Int)) = _
        rw [List.getD_eq_getElem?_getD, List.getElem?_set_self hk]
        simp only [Option.getD_some, List.set_set]
        have hxe : (x.1, x.2.1, (0 : Int)) = x := by rw [← h0]
        rw [hxe]
        obtain ⟨hk, rfl⟩ := List.getElem?_eq_some_iff.1 hx
        rw [List.set_getElem_self]
    · refine ⟨[], 9, _, _, ?_, hof, .inl ⟨rfl, rfl, h0⟩⟩
      unfold claS
      rw [hfs, if_neg (by simp), if_pos hp, if_neg (by simp), hgd, if_pos h0]
  | some j =>
    rw [hq] at hcl
    obtain ⟨hj, hj2, _⟩ := List.findIdx?_eq_some_iff_getElem.1 hq
    have hof : ofS l p = (l[j], true, 0) := by
      unfold ofS
      rw [hcl, if_neg (by simp)]
      show (l.getD j (0, 0, 0), true, (0 : Int)) = _
      rw [List.getD_eq_getElem?_getD, List.getElem?_eq_getElem hj]
      rfl
    by_cases h0 : x.2.2 = 0
    · refine ⟨[], 7, _, _, ?_, hof, .inr (.inl ⟨rfl, rfl, h0, rfl, fun e => ?_⟩)⟩
      · unfold claS
        rw [hfs, if_neg (by simp), if_pos hp, if_neg (by simp), hgd, if_neg (by simp [h0]), hq]
        rfl
      · rw [e] at hj2
        simp at hj2
        omega
    · refine ⟨[], 9, _, _, ?_, hof, .inl ⟨rfl, rfl, h0⟩⟩
      unfold claS
      rw [hfs, if_neg (by simp), if_pos hp, if_neg (by simp), hgd, if_pos h0]
end Go.Proofs.Ytnglompninkmbaa
