/- append of writes (three cells each). -/
import Derived.Test.YtnglompninkmbaaHeldF
import Derived.Maps.AppendAt
import Derived.Deep.AppendSrc
import Derived.Deep.DeepAppendWide
namespace Go.Proofs.Ytnglompninkmbaa
open Go.RowKit Go.Maps

theorem wrInfo : (Try.prog.info? 28).map (fun i => (i.zero, i.size, i.bytes)) = some (some (.agg #[.int .i64 0, .int .i64 0, .int .i64 0]), 3, 24) := by kernel_rfl
def cellsW (l : List Wr) : List Value := (flat l).map (Value.int .i64)
theorem cellsW_length (l : List Wr) : (cellsW l).length = l.length * 3 := by simp [cellsW, flat_length]
theorem cellsW_append (l k : List Wr) : cellsW (l ++ k) = cellsW l ++ cellsW k := by simp [cellsW, flat_append]
theorem cellsW_one (l : List Wr) : ∀ u ∈ cellsW l, u.oneCell' = true := int_one _
/-- The slice value v owns the writes l. -/
def OwnW (w : World) (base : Nat) (v : Value) (l : List Wr) : Prop := w.ownsRow base 28 3 v l.length (cellsW l)
/-- A slice onto which one may append: it is full, or one's own. -/
def CanApp (w : World) (base : Nat) (A : Option Addr) (c : Nat) (l : List Wr) : Prop := (c = l.length ∧ SW w A l) ∨ OwnW w base (.slice A l.length c) l
theorem OwnW.sw {w : World} {base : Nat} {A : Option Addr} {c n : Nat} {l : List Wr} (h : OwnW w base (.slice A n c) l) : n = l.length ∧ SW w A l := by
  obtain ⟨hl, ⟨e, hn⟩ | ⟨g, cap, cur, e, _, hb, _, _, hs, ht⟩⟩ := h
  · injection e with e1 e2 e3
    have : l = [] := List.length_eq_zero_iff.1 hn
    subst this
    exact ⟨by simp [e2], SW.nil⟩
  · injection e with e1 e2 e3
    subst e1 e2 e3
    refine ⟨rfl, fun hp => ⟨g, 0, rfl, (Array.getElem?_eq_some_iff.1 hb).1, fun j x hx => ?_⟩⟩
    have hj : j < l.length * 3 := by
      have := (List.getElem?_eq_some_iff.1 hx).1
      rw [flat_length] at this
      exact this
    have h1 : (cellsW l)[j]? = some (.int .i64 x) := by simp [cellsW, hx]
    rw [← ht, List.getElem?_take_of_lt hj] at h1
    rw [show (0 : Nat) + j = j by omega, Blk.cell_ (w := w) (b := g) hb j, ← h1]
    simp
/-- No writes, or one's own row of them. -/
def Mine (w : World) (base : Nat) (A : Option Addr) (c : Nat) (l : List Wr) : Prop := l = [] ∨ OwnW w base (.slice A l.length c) l
theorem Mine.far {w : World} {base : Nat} {A : Option Addr} {c : Nat} {l : List Wr} (h : Mine w base A c l) {g : Nat} (o : Nat) (u : Value) (hg : g < base) : Mine (w.setCell ⟨g, o, none⟩ u) base A c l := by
  rcases h with h | ⟨hl, h⟩
  · exact .inl h
  · refine .inr ⟨hl, ?_⟩
    rcases h with h | ⟨g', cap, cur, e, h1, h2, h3⟩
    · exact .inl h
    · exact .inr ⟨g', cap, cur, e, h1, (Below.heap_setCell w ⟨g, o, none⟩ u g' (by show g' ≠ g; omega)).trans h2, h3⟩
theorem CanApp.sw {w : World} {base : Nat} {A : Option Addr} {c : Nat} {l : List Wr} (h : CanApp w base A c l) : SW w A l := by
  rcases h with ⟨_, h⟩ | h
  · exact h
  · exact h.sw.2
theorem CanApp.ext {w w' : World} {base : Nat} {A : Option Addr} {c : Nat} {l : List Wr} (h : CanApp w base A c l) (hb : Below w.heap.size w w') : CanApp w' base A c l := by
  rcases h with ⟨hc, h⟩ | ⟨hl, h⟩
  · exact .inl ⟨hc, h.ext hb⟩
  · refine .inr ⟨hl, ?_⟩
    rcases h with h | ⟨g, cap, cur, e, h1, h2, h3⟩
    · exact .inl h
    · exact .inr ⟨g, cap, cur, e, h1, (hb.block g (Array.getElem?_eq_some_iff.1 h2).1).trans h2, h3⟩
theorem SW.cells {w : World} {b off : Nat} {sp} {l : List Wr} (h : SW w (some ⟨b, off, sp⟩) l) : ∀ j u, (cellsW l)[j]? = some u → w.cell? ((⟨b, off, sp⟩ : Addr).add j) = some u := Sl.cells h

theorem first_none (w : World) (B : Option Addr) (d k : Nat) : (Builtin.firstCells k 0 (.slice B 0 d)).run Try.prog w = .ok #[] w := by
  cases B with
  | none => exact run_firstCells_none w k 0 0 d
  | some ad => exact run_firstCells_some w k 0 ad 0 d [] (by simp) (fun j u hu => by simp at hu)

theorem both_own {m : Sem Value} {w w' : World} {base c c' : Nat} {A A' : Option Addr} {l k : List Wr} (hr : m.run Try.prog w = .ok (.slice A' (l ++ k).length c') w') (hb : Below base w w') (ho : OwnW w' base (.slice A' (l ++ k).length c') (l ++ k)) :
    ∃ A' c' w', m.run Try.prog w = .ok (.slice A' (l ++ k).length c') w' ∧ CanApp w' base A' c' (l ++ k) ∧ Below base w w' ∧ (Mine w base A c l → Mine w' base A' c' (l ++ k)) :=
  ⟨A', c', w', hr, .inr ho, hb, fun _ => .inr ho⟩
theorem run_appW (ty : TypeId) (w : World) (base : Nat) (hbase : base ≤ w.heap.size) (A : Option Addr) (c : Nat) (l : List Wr) (h : CanApp w base A c l) (B : Option Addr) (d : Nat) (k : List Wr) (hk : SW w B k) (hl : l.length + k.length ≤ 10000) :
    ∃ A' c' w', (Builtin.append_ #[23, 23] ty #[.slice A l.length c, .slice B k.length d]).run Try.prog w = .ok (.slice A' (l ++ k).length c') w' ∧ CanApp w' base A' c' (l ++ k) ∧ Below base w w' ∧ (Mine w base A c l → Mine w' base A' c' (l ++ k)) := by
  obtain ⟨i0, hi, hz0, hz1, hz2⟩ := info_parts wrInfo
  by_cases h0 : k = []
  · subst h0
    refine ⟨A, c, w, ?_, by simpa using h, Below.refl _ _, by simp⟩
    have hfc := fun n => first_none w B d n
    have hle : l.length ≤ c := by
      rcases h with ⟨hc, _⟩ | ⟨_, ⟨e, _⟩ | ⟨g, cap, cur, e, _, _, hle, _⟩⟩
      · omega
      · injection e with e1 e2 e3; omega
      · injection e with e1 e2 e3; omega
    cases A with
    | none =>
      have hl0 : l = [] := by
        rcases Nat.eq_zero_or_pos l.length with e | e
        · exact List.length_eq_zero_iff.1 e
        · obtain ⟨b, off, e', _⟩ := h.sw (by rw [flat_length]; omega)
          cases e'
      subst hl0
      simp [Builtin.append_, run_underlying Try.underlying23, sizeOf, typeInfo, hi, Builtin.lenOf, hfc]
    | some ad => simp [Builtin.append_, run_underlying Try.underlying23, sizeOf, typeInfo, hi, Builtin.lenOf, hfc, hle, storeCells]
  · have hp : 0 < k.length := List.length_pos_iff.2 h0
    obtain ⟨b, off, rfl, hb, hc⟩ := hk (by rw [flat_length]; omega)
    have hk' : SW w (some ⟨b, off, none⟩) k := hk
    rcases h with ⟨rfl, h⟩ | h
    · have hold : (Builtin.firstCells i0.size l.length (.slice A l.length l.length)).run Try.prog w.drew = .ok (cellsW l).toArray w.drew := by
        rw [hz1]
        cases A with
        | none =>
          have hl0 : l = [] := by
            rcases Nat.eq_zero_or_pos l.length with e | e
            · exact List.length_eq_zero_iff.1 e
            · obtain ⟨b, off, e', _⟩ := h (by rw [flat_length]; omega)
              cases e'
          subst hl0
          exact run_firstCells_none _ 3 0 0 0
        | some ad =>
          rcases Nat.eq_zero_or_pos l.length with e | e
          · rw [e, List.length_eq_zero_iff.1 e]
            exact first_none _ (some ad) 0 3
          · obtain ⟨b, off, e', _⟩ := h (by rw [flat_length]; omega)
            injection e' with e'
            subst e'
            exact run_firstCells_some w.drew 3 l.length ⟨b, off, none⟩ l.length l.length (cellsW l) (by rw [cellsW_length]) (SW.cells h)
      have hsrc : Src Try.prog i0.size 23 (.slice (some ⟨b, off, none⟩) k.length d) k.length (cellsW k) w := by
        rw [hz1]
        exact Src.ofSlice w Try.underlying23 ⟨b, off, none⟩ k.length d (cellsW k) (by rw [cellsW_length]) (SW.cells hk') (cellsW_one k)
      have hr := run_append_grow_src w 23 23 ty 28 i0 _ Try.underlying23 hi hz0 A l.length l.length (cellsW l) hold _ k.length (cellsW k) hsrc (by omega) (by omega)
        (growslice_fits_wide (by omega) (by rw [hz2]; omega))
      have hge := grownCap_ge w (l.length + k.length) l.length 28
      have hle := grownCap_le_maxLen w (l.length + k.length) l.length 28 (by unfold maxLen; omega)
      refine both_own (by rw [List.length_append]; exact hr) ((Below.refl _ _).drew.alloc hbase _) ?_
      refine ⟨cellsW_length _, .inr ⟨w.heap.size, _, _, rfl, hbase, World.alloc_heap_new w.drew _, by rw [List.length_append]; exact hge, hle, ?_, ?_⟩⟩
      · simp [Builtin.zeroCells, cellsW_length, Value.cells]
        omega
      · have hn : (cellsW l ++ cellsW k).length = (l ++ k).length * 3 := by rw [← cellsW_append, cellsW_length]
        rw [Array.toList_append, List.take_append_of_le_length (by rw [List.toList_toArray, hn]; exact Nat.le_refl _), List.toList_toArray, List.take_of_length_le (by rw [hn]; exact Nat.le_refl _), cellsW_append]
    · obtain ⟨v', w', hrun, h2, h3, _, h5⟩ := run_append_own_at (P := Try.prog) w base 23 ty 28 i0 _ 3 24 Try.underlying23 hi hz0 hz1 hz2 rfl (by omega) _ l.length (cellsW l) h ⟨b, off, none⟩ k.length d (cellsW k) (cellsW_length k) (SW.cells hk') (cellsW_one k) (by unfold maxLen; omega) (by omega) hbase
      have hO : OwnW w' base v' (l ++ k) := by
        unfold OwnW
        rw [cellsW_append, List.length_append]
        exact h2
      have hv : ∃ A' c', v' = .slice A' (l ++ k).length c' := by
        obtain ⟨_, ⟨e, hn⟩ | ⟨g, cap, cur, e, _⟩⟩ := hO
        · exact ⟨none, 0, by rw [e, hn]⟩
        · exact ⟨_, _, e⟩
      obtain ⟨A', c', rfl⟩ := hv
      refine ⟨A', c', w', hrun, .inr hO, ?_, fun _ => .inr hO⟩
      refine (Below.refl base w).grown h3 hbase (fun r e => ?_)
      obtain ⟨_, ⟨e', _⟩ | ⟨g, cap, cur, e', hg, _⟩⟩ := h
      · injection e' with e1
        subst e1
        cases e
      · injection e' with e1
        subst e1
        simp [Value.ownBlock] at e
        omega
end Go.Proofs.Ytnglompninkmbaa
