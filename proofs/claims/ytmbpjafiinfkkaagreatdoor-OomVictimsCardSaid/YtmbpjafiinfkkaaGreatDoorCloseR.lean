/- A slice of structs of ints that comes in as an argument. -/
import Derived.Test.YtmbpjafiinfkkaaGreatDoorClose
import Derived.Test.YtmbpjafiinfkkaaGreatDoorRow
import Derived.Deep.Slices
import Derived.Deep.SlicePairs
namespace Go.Proofs.YtmbpjafiinfkkaaGreatDoor
set_option linter.unusedSimpArgs false
set_option linter.unusedVariables false
open Go.RowKit Go.Maps
open Go.ChangeShapes Go.WideShapes Go.ChangeAt Go.Joins Go.Deep

section
variable {H : Type} {enc : TypeId × Value → H} {P : Program} {W : World} {α : Type}
theorem flatR_inv (E : Elt P α) : ∀ (l : List α) (j : Nat) (u : Value), (E.flat l)[j]? = some u → ∃ k m x, l[k]? = some x ∧ (E.enc x)[m]? = some u ∧ j = k * E.sz + m
  | [], j, u, h => by simp [Elt.flat] at h
  | y :: l, j, u, h => by
    have e : E.flat (y :: l) = E.enc y ++ E.flat l := rfl
    rw [e] at h
    by_cases hj : j < E.sz
    · rw [List.getElem?_append_left (by rw [E.hlen]; exact hj)] at h
      exact ⟨0, j, y, rfl, h, by omega⟩
    · rw [List.getElem?_append_right (by rw [E.hlen]; omega), E.hlen] at h
      obtain ⟨k, m, x, h1, h2, h3⟩ := flatR_inv E l _ u h
      exact ⟨k + 1, m, x, h1, h2, by rw [Nat.succ_mul]; omega⟩
theorem SR.of_at {E : Elt P α} {b off : Nat} {l : List α} (hb : 0 < l.length → b < W.heap.size) (h : ∀ i x, l[i]? = some x → ∀ (j : Nat) u, (E.enc x)[j]? = some u → W.cell? ⟨b, off + i * E.sz + j, none⟩ = some u) : SR E W (some ⟨b, off, none⟩) l := fun hp => by
  refine ⟨b, off, rfl, hb (by rw [E.flat_length] at hp; exact Nat.pos_of_mul_pos_right hp), fun j u hu => ?_⟩
  obtain ⟨k, m, x, h1, h2, rfl⟩ := flatR_inv E l j u hu
  rw [← Nat.add_assoc]
  exact h k x h1 m u h2
theorem open_slR (E : Elt P α) {fs : Array Field} {base : Nat} {v : Value} {d : DataW H} {p : List MemPlace} (he : P.underlying E.e = some (.struct fs)) (ce : P.cellsOf E.e = E.sz) (hn : fs.size = E.sz)
    (hf : ∀ (j : Nat) f, fs[j]? = some f → f.offset = j ∧ P.cellsOf f.type = 1 ∧ P.underlying f.type = some (.int .i64)) (dec : List Int → α) (hdec : ∀ xs, xs.length = E.sz → E.enc (dec xs) = xs.map (.int .i64))
    (hv : Value.okWide P W .any base E.s v) (h : DataW.Trod enc P W 0 (fun _ => true) true E.s v d p) :
    ∃ A c l, v = .slice A l.length c ∧ CR E W A c l ∧ l.length ≤ maxLen := by
  obtain ⟨a, len, cap, rfl⟩ := okWide_slice E.hs hv
  obtain ⟨fuel, hfu⟩ := h
  rcases open_slice E.hs hfu with ⟨hcs, _⟩ | ⟨a', len', cap', m, n, D, Pl, hcs, _, hl, hm, hmm, _, hx⟩
  · simp [Value.cells] at hcs
    obtain ⟨rfl, rfl, rfl⟩ := hcs
    exact ⟨none, 0, [], rfl, CR.nil, by simp⟩
  · simp [Value.cells] at hcs
    obtain ⟨rfl, rfl, rfl⟩ := hcs
    simp only [if_true] at hmm
    subst hmm
    have each : ∀ i, i < len → ∃ x : α, ∀ (j : Nat) u, (E.enc x)[j]? = some u → W.cell? (a'.add (i * E.sz + j)) = some u := by
      intro i hi
      obtain ⟨cs', h1, h2⟩ := hx i (by omega)
      rw [ce] at h1
      obtain ⟨_, hlen, hcell⟩ := World.cells?_some h1
      obtain ⟨xs, k, hk, hxy, _, hxl, hfl⟩ := DataW.trod_struct he h2
      have hz : ∀ j, j < E.sz → ∃ z : Int, cs'[j]? = some (.int .i64 z) := by
        intro j hj
        obtain ⟨o1, o2, o3⟩ := hf j fs[j] (Array.getElem?_eq_getElem (by omega))
        have g := hfl j fs[j] (Array.getElem?_eq_getElem (by omega))
        rw [o1, o2] at g
        cases hxj : xs[j]? with
        | none => rw [List.getElem?_eq_none_iff] at hxj; omega
        | some y =>
          rw [hxj] at g
          obtain ⟨z, ez, _, _⟩ := DataW.trod_int o3 g
          refine ⟨z, ?_⟩
          have h3 : ((cs'.drop j).take 1)[0]? = some (.int .i64 z) := by rw [ez]; rfl
          rw [List.getElem?_take_of_lt (by omega), List.getElem?_drop, Nat.add_zero] at h3
          exact h3
      let Z : Nat → Int := fun j => if h : j < E.sz then Classical.choose (hz j h) else 0
      have hZ : ∀ j, j < E.sz → cs'[j]? = some (.int .i64 (Z j)) := by
        intro j hj
        have : Z j = Classical.choose (hz j hj) := dif_pos hj
        rw [this]
        exact Classical.choose_spec (hz j hj)
      refine ⟨dec ((List.range E.sz).map Z), fun j u hu => ?_⟩
      rw [hdec _ (by simp)] at hu
      have hj : j < E.sz := by have := (List.getElem?_eq_some_iff.1 hu).1; simpa using this
      have hk := hcell j (by omega)
      rw [add_add] at hk
      rw [hk, hZ j hj]
      rw [List.getElem?_map, List.getElem?_map, List.getElem?_range hj] at hu
      simpa using hu
    let X : Nat → α := fun i => if h : i < len then Classical.choose (each i h) else dec []
    have hX : ∀ i, i < len → ∀ (j : Nat) u, (E.enc (X i))[j]? = some u → W.cell? (a'.add (i * E.sz + j)) = some u := by
      intro i hi
      have : X i = Classical.choose (each i hi) := dif_pos hi
      rw [this]
      exact Classical.choose_spec (each i hi)
    refine ⟨some a', m, (List.range len).map X, by simp, ⟨?_, by simpa using hl⟩, by simp; omega⟩
    rcases Nat.eq_zero_or_pos len with h0 | h0
    · subst h0
      exact SR.nil
    · obtain ⟨b, off, sp⟩ := a'
      have hpos := E.pos
      have hu0 : (E.enc (X 0))[0]? = some ((E.enc (X 0))[0]'(by rw [E.hlen]; exact hpos)) := List.getElem?_eq_getElem _
      have hc0 := hX 0 h0 0 _ hu0
      rw [Nat.zero_mul, Nat.zero_add] at hc0
      cases sp with
      | some s =>
        simp [Addr.add, World.cell?] at hc0
        split at hc0 <;> cases hc0
      | none =>
        have hadd : ∀ k, (⟨b, off, none⟩ : Addr).add k = ⟨b, off + k, none⟩ := fun k => by by_cases h : k = 0 <;> simp [Addr.add, h]
        rw [hadd] at hc0
        refine SR.of_at (fun _ => World.block_lt_of_cell? W _ hc0) (fun i x hi j u hu => ?_)
        obtain ⟨hi', rfl⟩ := List.getElem?_eq_some_iff.1 hi
        simp at hi'
        simp only [List.getElem_map, List.getElem_range] at hu
        have := hX i hi' j u hu
        rw [hadd] at this
        rw [Nat.add_assoc]
        exact this
end
end Go.Proofs.YtmbpjafiinfkkaaGreatDoor
