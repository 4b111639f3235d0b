/- A slice of writes that comes in as an argument. -/
import Derived.Test.YtnglompninkmbaaClose
import Derived.Test.YtnglompninkmbaaHeldB
import Derived.Deep.Slices
import Derived.Deep.SlicePairs
namespace Go.Proofs.Ytnglompninkmbaa
open Go.RowKit Go.Maps
open Go.ChangeShapes Go.WideShapes Go.ChangeAt Go.Joins Go.Deep

theorem flat_inv {l : List Wr} {j : Nat} {y : Int} (h : (flat l)[j]? = some y) : ∃ x, l[j / 3]? = some x ∧ ((j % 3 = 0 ∧ y = x.1) ∨ (j % 3 = 1 ∧ y = x.2.1) ∨ (j % 3 = 2 ∧ y = x.2.2)) := by
  have hj := (List.getElem?_eq_some_iff.1 h).1
  rw [flat_length] at hj
  have hi : j / 3 < l.length := by omega
  have hx : l[j / 3]? = some l[j / 3] := List.getElem?_eq_getElem hi
  obtain ⟨h0, h1, h2⟩ := flat_at hx
  refine ⟨_, hx, ?_⟩
  rcases (by omega : j % 3 = 0 ∨ j % 3 = 1 ∨ j % 3 = 2) with r | r | r
  · rw [show j / 3 * 3 = j by omega, h] at h0
    exact .inl ⟨r, by injection h0⟩
  · rw [show j / 3 * 3 + 1 = j by omega, h] at h1
    exact .inr (.inl ⟨r, by injection h1⟩)
  · rw [show j / 3 * 3 + 2 = j by omega, h] at h2
    exact .inr (.inr ⟨r, by injection h2⟩)
theorem SW.of_at {w : World} {b off : Nat} {l : List Wr} (hb : 0 < l.length → b < w.heap.size) (h : ∀ i x, l[i]? = some x → w.cell? ⟨b, off + i * 3, none⟩ = some (.int .i64 x.1) ∧ w.cell? ⟨b, off + i * 3 + 1, none⟩ = some (.int .i64 x.2.1) ∧ w.cell? ⟨b, off + i * 3 + 2, none⟩ = some (.int .i64 x.2.2)) :
    SW w (some ⟨b, off, none⟩) l := fun hp => by
  refine ⟨b, off, rfl, hb (by rw [flat_length] at hp; omega), fun j y hy => ?_⟩
  obtain ⟨x, hx, hc⟩ := flat_inv hy
  obtain ⟨h0, h1, h2⟩ := h _ _ hx
  rcases hc with ⟨r, rfl⟩ | ⟨r, rfl⟩ | ⟨r, rfl⟩
  · rw [show off + j = off + j / 3 * 3 by omega]; exact h0
  · rw [show off + j = off + j / 3 * 3 + 1 by omega]; exact h1
  · rw [show off + j = off + j / 3 * 3 + 2 by omega]; exact h2

section
variable {H : Type} {enc : TypeId × Value → H} {P : Program} {W : World}
theorem open_slW {t e : TypeId} {f0 f1 f2 : Field} {base : Nat} {v : Value} {d : DataW H} {p : List MemPlace} (ht : P.underlying t = some (.slice e)) (he : P.underlying e = some (.struct #[f0, f1, f2])) (ce : P.cellsOf e = 3)
    (o0 : f0.offset = 0) (o1 : f1.offset = 1) (o2 : f2.offset = 2) (c0 : P.cellsOf f0.type = 1) (c1 : P.cellsOf f1.type = 1) (c2 : P.cellsOf f2.type = 1)
    (u0 : P.underlying f0.type = some (.int .i64)) (u1 : P.underlying f1.type = some (.int .i64)) (u2 : P.underlying f2.type = some (.int .i64))
    (hv : Value.okWide P W .any base t v) (h : DataW.Trod enc P W 0 (fun _ => true) true t v d p) :
    ∃ A c l, v = .slice A l.length c ∧ CW W A c l ∧ l.length ≤ maxLen := by
  obtain ⟨a, len, cap, rfl⟩ := okWide_slice ht hv
  obtain ⟨fuel, hf⟩ := h
  rcases open_slice ht hf with ⟨hcs, _⟩ | ⟨a', len', cap', m, n, D, Pl, hcs, _, hl, hm, hmm, _, hx⟩
  · simp [Value.cells] at hcs
    obtain ⟨rfl, rfl, rfl⟩ := hcs
    exact ⟨none, 0, [], rfl, CW.nil, by simp⟩
  · simp [Value.cells] at hcs
    obtain ⟨rfl, rfl, rfl⟩ := hcs
    simp only [if_true] at hmm
    subst hmm
    have each : ∀ i, i < len → ∃ x : Wr, W.cell? (a'.add (i * 3)) = some (.int .i64 x.1) ∧ W.cell? (a'.add (i * 3 + 1)) = some (.int .i64 x.2.1) ∧ W.cell? (a'.add (i * 3 + 2)) = some (.int .i64 x.2.2) := by
      intro i hi
      obtain ⟨cs', h1, h2⟩ := hx i (by omega)
      rw [ce] at h1
      obtain ⟨_, hlen, hcell⟩ := World.cells?_some h1
      obtain ⟨xs, k, hk, hxy, _, hxl, hfl⟩ := DataW.trod_struct he h2
      match xs, hxl, cs', hlen with
      | [y0, y1, y2], _, [v0, v1, v2], _ =>
        have g0 := hfl 0 f0 rfl
        have g1 := hfl 1 f1 rfl
        have g2 := hfl 2 f2 rfl
        simp [o0, o1, o2, c0, c1, c2] at g0 g1 g2
        obtain ⟨a0, e0, _, _⟩ := DataW.trod_int u0 g0
        obtain ⟨a1, e1, _, _⟩ := DataW.trod_int u1 g1
        obtain ⟨a2, e2, _, _⟩ := DataW.trod_int u2 g2
        simp at e0 e1 e2
        subst e0 e1 e2
        have k0 := hcell 0 (by omega)
        have k1 := hcell 1 (by omega)
        have k2 := hcell 2 (by omega)
        rw [add_add] at k0 k1 k2
        exact ⟨(a0, a1, a2), by simpa using k0, by simpa using k1, by simpa using k2⟩
    let X : Nat → Wr := fun i => if h : i < len then Classical.choose (each i h) else (0, 0, 0)
    have hX : ∀ i, i < len → W.cell? (a'.add (i * 3)) = some (.int .i64 (X i).1) ∧ W.cell? (a'.add (i * 3 + 1)) = some (.int .i64 (X i).2.1) ∧ W.cell? (a'.add (i * 3 + 2)) = some (.int .i64 (X i).2.2) := by
      intro i hi
      have : X i = Classical.choose (each i hi) := dif_pos hi
      rw [this]
      exact Classical.choose_spec (each i hi)
    refine ⟨some a', m, (List.range len).map X, by simp, ⟨?_, by simpa using hl⟩, by simp; omega⟩
    rcases Nat.eq_zero_or_pos len with h0 | h0
    · subst h0
      exact SW.nil
    · obtain ⟨b, off, sp⟩ := a'
      have hc0 := (hX 0 h0).1
      cases sp with
      | some s =>
        simp [Addr.add, World.cell?] at hc0
        split at hc0 <;> cases hc0
      | none =>
        have hadd : ∀ k, (⟨b, off, none⟩ : Addr).add k = ⟨b, off + k, none⟩ := fun k => by by_cases h : k = 0 <;> simp [Addr.add, h]
        refine SW.of_at (fun _ => World.block_lt_of_cell? W ⟨b, off + 0 * 3, none⟩ (by rw [← hadd]; exact hc0)) (fun i x hi => ?_)
        obtain ⟨hi', rfl⟩ := List.getElem?_eq_some_iff.1 hi
        simp at hi'
        simp only [List.getElem_map, List.getElem_range]
        have := hX i hi'
        rw [hadd, hadd, hadd] at this
        exact ⟨this.1, by rw [Nat.add_assoc]; exact this.2.1, by rw [Nat.add_assoc]; exact this.2.2⟩
end
end Go.Proofs.Ytnglompninkmbaa
