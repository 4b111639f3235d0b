/- Contracts of the package lru: Add, Remove, Touch, New. -/
import Derived.Test.YtifimhfdapkpoaaLru4
namespace Go.Proofs.Ytifimhfdapkpoaa
open Go.RowKit Go.Maps

theorem OwnL.bit {W : World} {base : Nat} {A1 A2 A3 : Option Addr} {c1 c2 c3 : Nat} {xs ys : List Int} {rs : List Bool} (h : OwnL W base A1 c1 A2 c2 A3 c3 xs ys rs) {f : Nat} (hf : f < rs.length) (b : Bool) :
    ∃ g, A3 = some ⟨g, 0, none⟩ ∧ (W.cell? ⟨g, f, none⟩ = some (.bool (rs.getD f false))) ∧ W.frozen? ⟨g, f, none⟩ = false ∧ base ≤ g ∧ g < W.heap.size ∧ OwnL (W.setCell ⟨g, f, none⟩ (.bool b)) base A1 c1 A2 c2 A3 c3 xs ys (rs.set f b) := by
  have hs := RS.start h
  obtain ⟨g, hA, hc, hfz, hbg, _⟩ := hs.bit hf b
  have hlt := (h.r.block g (by rw [hA]; rfl)).2
  refine ⟨g, hA, ?_, ?_, hbg, hlt, ?_⟩
  · rw [← hc, World.cell?_alloc_lt _ _ _ hlt]
  · rw [← hfz]; exact (frozen_keep (B := W.heap.size) ((Below.refl _ _).alloc (Nat.le_refl _) _) rfl hlt).symm
  rcases h.r.form with ⟨_, rfl⟩ | ⟨g', cur, e, _, hh, hs', hm, hcc⟩
  · simp at hf
  injection e with e1 _ e2
  subst e1 e2
  injection hA with hA
  injection hA with hA
  subst hA
  have hlen : (rs.set f b).length = rs.length := by simp
  refine ⟨h.a.far_ _ _ (fun e => h.ar _ e rfl), h.i.far_ _ _ (fun e => h.ir _ e rfl), ?_, h.ai, h.ar, h.ir⟩
  have hk := hh.set_ f (.bool b)
  have hcs : (cur.setIfInBounds f (.bool b)).size = cur.size := by simp
  have := Own.of_blk (mk := Value.bool) (xs := rs.set f b) hk hbg (by simpa using hs') (by simpa using hm) (fun j x hx => by
    have hj := (List.getElem?_eq_some_iff.1 hx).1
    rw [hlen] at hj
    rw [List.getElem?_set] at hx
    by_cases e : f = j
    · subst e
      rw [if_pos rfl, if_pos hf] at hx
      injection hx with hx
      have hlt : f < cur.size := by omega
      rw [← hx]
      simp [hlt]
    · rw [if_neg e] at hx
      rw [Array.getElem?_setIfInBounds_ne e]
      exact hcc j x hx)
  rw [hcs] at this
  exact this
/-- New lists and no error. -/
def ListsPost (xs ys : List Int) (rs : List Bool) (w : World) (e : Ending) (w' : World) : Prop :=
  ∃ A1 c1 A2 c2 A3 c3, e = .returned (.tuple #[.agg #[.slice A1 xs.length c1, .slice A2 ys.length c2, .slice A3 rs.length c3], .int .i64 0]) ∧ OwnL w' w.heap.size A1 c1 A2 c2 A3 c3 xs ys rs ∧ Below w.heap.size w w'

end Go.Proofs.Ytifimhfdapkpoaa
