/- Lists that come in as an argument: three slices in a struct. -/
import Derived.Test.YtjilfijpepbfeaaClose
import Derived.Deep.Grids
namespace Go.Proofs.Ytjilfijpepbfeaa
open Go.RowKit Go.Maps
open Go.ChangeShapes Go.WideShapes Go.ChangeAt Go.Joins Go.Deep

section
variable {H : Type} {enc : TypeId × Value → H} {P : Program} {W : World}
theorem open_cellsB {t e : TypeId} {fuel : Nat} {v : Value} {x : DataW H × List MemPlace} (ht : P.underlying t = some (.slice e)) (he : P.underlying e = some .bool) (hc : P.cellsOf e = 1)
    (h : DataW.trod enc P W 0 (fun _ => true) true fuel t [v] = some x) :
    ∃ A c xs, v = .slice A xs.length c ∧ Sl W .bool A xs ∧ xs.length ≤ maxLen := by
  rcases open_bools ht he hc h with ⟨hcs, _⟩ | ⟨a, len, cap, B, hcs, _, hl, hm, _, hcell⟩
  · injection hcs with e1
    exact ⟨none, 0, [], e1, Sl.nil, by simp⟩
  · injection hcs with e1
    have hlen : ((List.range len).map B).length = len := by simp
    refine ⟨some a, cap, (List.range len).map B, by rw [hlen]; exact e1, fun hp => ?_, by omega⟩
    have h0 := hcell 0 (by omega)
    obtain ⟨b, off, sp⟩ := a
    cases sp with
    | some s =>
      simp [Addr.add, World.cell?] at h0
      split at h0 <;> cases h0
    | none =>
      refine ⟨b, off, rfl, World.block_lt_of_cell? W ⟨b, off + 0, none⟩ h0, fun j x hx => ?_⟩
      obtain ⟨hj, rfl⟩ := List.getElem?_eq_some_iff.1 hx
      rw [hlen] at hj
      have := hcell j (by omega)
      by_cases hj0 : j = 0
      · subst hj0; simpa [Addr.add] using this
      · simpa [Addr.add, hj0] using this
end
end Go.Proofs.Ytjilfijpepbfeaa
