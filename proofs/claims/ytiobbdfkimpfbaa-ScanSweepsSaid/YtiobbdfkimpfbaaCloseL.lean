/- Lists that come in as an argument: three slices in a struct. -/
import Derived.Test.YtiobbdfkimpfbaaClose
import Derived.Deep.Grids
import Derived.SizedLaws
namespace Go.Proofs.Ytiobbdfkimpfbaa
set_option linter.unusedSimpArgs false
set_option linter.unusedVariables false
open Go.RowKit Go.Maps
open Go.ChangeShapes Go.WideShapes Go.ChangeAt Go.Joins Go.Deep

section
variable {H : Type} {enc : TypeId × Value → H} {P : Program} {W : World}
theorem open_cellsB {t e : TypeId} {fuel : Nat} {v : Value} {x : DataW H × List MemPlace} (ht : P.underlying t = some (.slice e)) (he : P.underlying e = some .bool) (hc : P.cellsOf e = 1)
    (h : DataW.trod enc P W 0 (fun _ => true) true fuel t [v] = some x) :
    ∃ A c xs, v = .slice A xs.length c ∧ Sl W .bool A xs ∧ xs.length ≤ maxLen := by
  rcases open_bools ht he hc h with ⟨hcs, _⟩ | ⟨a, len, cap, B, hcs, _, hl, hm, _, hcell⟩
  · injection hcs with e1
    exact ⟨none, 0, [], e1, Sl.nil, by simp⟩
  · injection hcs with e1
    have hlen : ((List.range len).map B).length = len := by simp
    refine ⟨some a, cap, (List.range len).map B, by rw [hlen]; exact e1, fun hp => ?_, by omega⟩
    have h0 := hcell 0 (by omega)
    obtain ⟨b, off, sp⟩ := a
    cases sp with
    | some s =>
      simp [Addr.add, World.cell?] at h0
      split at h0 <;> cases h0
    | none =>
      refine ⟨b, off, rfl, World.block_lt_of_cell? W ⟨b, off + 0, none⟩ h0, fun j x hx => ?_⟩
      obtain ⟨hj, rfl⟩ := List.getElem?_eq_some_iff.1 hx
      rw [hlen] at hj
      have := hcell j (by omega)
      by_cases hj0 : j = 0
      · subst hj0; simpa [Addr.add] using this
      · simpa [Addr.add, hj0] using this
/-- A slice of ints out of its one cell's reading, with the reach: it takes no more bytes than a process has. -/
theorem open_cellsZ {t e : TypeId} {fuel : Nat} {v : Value} {x : DataW H × List MemPlace} (ht : P.underlying t = some (.slice e)) (he : P.underlying e = some (.int .i64)) (hc : P.cellsOf e = 1) (hby : P.bytesOf e = 8)
    (h : DataW.trod enc P W 0 (fun _ => true) true fuel t [v] = some x) (hz : ∀ n ∈ x.1.weights P t, n ≤ reachBytes) :
    ∃ A c xs, v = .slice A xs.length c ∧ Sl W (.int .i64) A xs ∧ (∀ n ∈ xs, (Lit.int .i64 n).wf = true) ∧ xs.length ≤ 140737488351232 := by
  have h0 := open_cellsI ht he hc h
  rcases open_ints ht he hc h with ⟨hcs, _⟩ | ⟨a, len, cap, zs, hcs, _, hl, hm, hzl, hx, _, _⟩
  · obtain ⟨A, c, xs, e1, h1, h2, h3⟩ := h0
    refine ⟨A, c, xs, e1, h1, h2, ?_⟩
    injection hcs with e2
    rw [e1] at e2
    injection e2 with _ e2
    omega
  · obtain ⟨A, c, xs, e1, h1, h2, h3⟩ := h0
    refine ⟨A, c, xs, e1, h1, h2, ?_⟩
    injection hcs with e2
    rw [e1] at e2
    injection e2 with _ e2
    simp only [if_true] at hzl
    have := hz ((lits (H := H) .i64 (zs.take len)).length * 8 + (lits (H := H) .i64 (zs.drop len)).length * 8) (by rw [hx]; simp only [DataW.weights, ht, hby, List.mem_cons]; left; rw [Nat.add_mul])
    simp only [lits, List.length_map, List.length_take, List.length_drop, reachBytes] at this
    omega
/-- The reach of the parts of a struct of three fields. -/
theorem parts_reach {T : TypeId} {f0 f1 f2 : Field} {ts : List TypeId} {d0 d1 d2 : DataW H} {ds : List (DataW H)} (hT : P.underlying T = some (.struct #[f0, f1, f2]))
    (h : (DataW.weightsEach P (T :: ts) (.agg [d0, d1, d2] :: ds)).all (· ≤ reachBytes) = true) : (∀ n ∈ d0.weights P f0.type, n ≤ reachBytes) ∧ (∀ n ∈ d1.weights P f1.type, n ≤ reachBytes) := by
  rw [List.all_eq_true] at h
  refine ⟨fun n hn => of_decide_eq_true (h n ?_), fun n hn => of_decide_eq_true (h n ?_)⟩
  · simp only [DataW.weightsEach, DataW.weights, hT, List.map_cons, List.mem_append]
    exact .inl (.inl hn)
  · simp only [DataW.weightsEach, DataW.weights, hT, List.map_cons, List.mem_append]
    exact .inl (.inr (.inl hn))
end
end Go.Proofs.Ytiobbdfkimpfbaa
