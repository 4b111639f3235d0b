/- Slices of structs of a few cells each, over any element: what lies in memory, append, l[:i], l[i:]. -/
import Derived.Test.YtmbpjafiinfkkaaGreatDoorMem
import Derived.Maps.AppendAt
import Derived.Deep.AppendSrc
import Derived.Deep.DeepAppendWide
import Derived.RangeFuncRecord
namespace Go.Proofs.YtmbpjafiinfkkaaGreatDoor
set_option linter.unusedSimpArgs false
set_option linter.unusedVariables false
open Go.RowKit Go.Maps

/-- An element of a slice: its type, the slice's type, how many cells and bytes, its zero value, its cells. -/
structure Elt (P : Program) (α : Type) where
  e : TypeId
  s : TypeId
  sz : Nat
  bytes : Nat
  z : Value
  enc : α → List Value
  hs : P.underlying s = some (.slice e)
  hi : (P.info? e).map (fun i => (i.zero, i.size, i.bytes)) = some (some z, sz, bytes)
  hz : z.cells.size = sz
  hlen : ∀ x, (enc x).length = sz
  hone : ∀ x, ∀ u ∈ enc x, u.oneCell' = true
  pos : 0 < sz
  few : bytes ≤ 1000 ∧ sz ≤ 1000

section
variable {P : Program} {α : Type} (E : Elt P α)
def Elt.flat (l : List α) : List Value := l.flatMap E.enc
theorem Elt.flat_length (l : List α) : (E.flat l).length = l.length * E.sz := by
  induction l with
  | nil => simp [Elt.flat]
  | cons x l ih =>
    simp only [Elt.flat, List.flatMap_cons, List.length_append, List.length_cons] at ih ⊢
    rw [ih, E.hlen, Nat.succ_mul, Nat.add_comm]
theorem Elt.flat_append (l k : List α) : E.flat (l ++ k) = E.flat l ++ E.flat k := by simp [Elt.flat]
theorem Elt.flat_one (x : α) : E.flat [x] = E.enc x := by simp [Elt.flat]
theorem Elt.flat_cells (l : List α) : ∀ u ∈ E.flat l, u.oneCell' = true := fun u hu => by
  obtain ⟨x, _, hx⟩ := List.mem_flatMap.1 hu
  exact E.hone x u hx
theorem Elt.flat_at {x : α} {u : Value} : ∀ {l : List α} {k j : Nat}, l[k]? = some x → (E.enc x)[j]? = some u → (E.flat l)[k * E.sz + j]? = some u
  | [], _, _, h, _ => by simp at h
  | y :: l, 0, j, h, hu => by
    simp only [List.getElem?_cons_zero, Option.some.injEq] at h
    subst h
    rw [Nat.zero_mul, Nat.zero_add]
    show (E.enc y ++ E.flat l)[j]? = some u
    rw [List.getElem?_append_left (List.getElem?_eq_some_iff.1 hu).1]
    exact hu
  | y :: l, k + 1, j, h, hu => by
    have ih := Elt.flat_at (l := l) (k := k) (j := j) (by simpa using h) hu
    show (E.enc y ++ E.flat l)[(k + 1) * E.sz + j]? = some u
    rw [List.getElem?_append_right (by rw [E.hlen, Nat.succ_mul]; omega), E.hlen, Nat.succ_mul, show k * E.sz + E.sz + j - E.sz = k * E.sz + j by omega]
    exact ih

/-- The slice value '.slice A l.length c' holds the elements l. -/
def SR (w : World) (A : Option Addr) (l : List α) : Prop := Sl w (fun v : Value => v) A (E.flat l)
variable {E} {w w' : World} {A : Option Addr} {c : Nat} {l : List α}
theorem SR.ext (h : SR E w A l) (hb : Below w.heap.size w w') : SR E w' A l := Sl.ext h hb
theorem SR.nil : SR E w A [] := Sl.nil
theorem SR.len_pos (h : 0 < l.length) : 0 < (E.flat l).length := by rw [E.flat_length]; exact Nat.mul_pos h E.pos
theorem SR.at_ {k : Nat} (h : SR E w A l) (hk : k < l.length) :
    ∃ b off x, A = some ⟨b, off, none⟩ ∧ b < w.heap.size ∧ l[k]? = some x ∧ ∀ (j : Nat) u, (E.enc x)[j]? = some u → w.cell? ⟨b, off + k * E.sz + j, none⟩ = some u := by
  obtain ⟨b, off, e, hb, hc⟩ := h (SR.len_pos (by omega))
  refine ⟨b, off, l[k], e, hb, List.getElem?_eq_getElem hk, fun j u hu => ?_⟩
  have := hc (k * E.sz + j) u (E.flat_at (List.getElem?_eq_getElem hk) hu)
  rw [Nat.add_assoc]
  exact this
theorem SR.of_blk {b : Nat} {t : TypeId} (h : Blk w b t (E.flat l).toArray) : SR E w (some ⟨b, 0, none⟩) l := Sl.of_blk h fun j x hx => by simpa using hx
theorem SR.cells {b off : Nat} {sp} (h : SR E w (some ⟨b, off, sp⟩) l) : ∀ (j : Nat) u, (E.flat l)[j]? = some u → w.cell? ((⟨b, off, sp⟩ : Addr).add j) = some u := fun j u hu => by
  obtain ⟨b', off', e, hb, hc⟩ := h (by have := (List.getElem?_eq_some_iff.1 hu).1; omega)
  injection e with e
  injection e with e1 e2 e3
  subst e1 e2 e3
  have := hc j u hu
  by_cases hj : j = 0
  · subst hj; simpa [Addr.add] using this
  · simpa [Addr.add, hj] using this
/-- The slice value v owns the elements l. -/
def OwnR (E : Elt P α) (w : World) (base : Nat) (v : Value) (l : List α) : Prop := w.ownsRow base E.e E.sz v l.length (E.flat l)
theorem OwnR.nil {base : Nat} : OwnR E w base (.slice none 0 0) [] := World.ownsRow_nil _ _ _ _
theorem OwnR.sr {base n : Nat} (h : OwnR E w base (.slice A n c) l) : n = l.length ∧ SR E w A l := by
  obtain ⟨hl, ⟨e, hn⟩ | ⟨g, cap, cur, e, _, hb, _, _, hs, ht⟩⟩ := h
  · injection e with e1 e2 e3
    have : l = [] := List.length_eq_zero_iff.1 hn
    subst this
    exact ⟨by simp [e2], SR.nil⟩
  · injection e with e1 e2 e3
    subst e1 e2 e3
    refine ⟨rfl, fun hp => ⟨g, 0, rfl, (Array.getElem?_eq_some_iff.1 hb).1, fun j x hx => ?_⟩⟩
    have hj : j < l.length * E.sz := by
      have := (List.getElem?_eq_some_iff.1 hx).1
      rw [E.flat_length] at this
      exact this
    have h1 : (E.flat l)[j]? = some x := hx
    rw [← ht, List.getElem?_take_of_lt hj] at h1
    rw [show (0 : Nat) + j = j by omega, Blk.cell_ (w := w) (b := g) hb j, ← h1]
    simp
theorem OwnR.ext {base : Nat} {v : Value} (h : OwnR E w base v l) (hb : Below w.heap.size w w') : OwnR E w' base v l := by
  obtain ⟨hl, h⟩ := h
  refine ⟨hl, ?_⟩
  rcases h with h | ⟨g, cap, cur, e, h1, h2, h3⟩
  · exact .inl h
  · exact .inr ⟨g, cap, cur, e, h1, (hb.block g (Array.getElem?_eq_some_iff.1 h2).1).trans h2, h3⟩
theorem OwnR.far {base : Nat} {v : Value} (h : OwnR E w base v l) {p : Addr} (u : Value) (hg : p.block < base) : OwnR E (w.setCell p u) base v l := by
  obtain ⟨hl, h⟩ := h
  refine ⟨hl, ?_⟩
  rcases h with h | ⟨g', cap, cur, e, h1, h2, h3⟩
  · exact .inl h
  · exact .inr ⟨g', cap, cur, e, h1, (Below.heap_setCell w p u g' (by omega)).trans h2, h3⟩
theorem OwnR.base_ {base base' : Nat} {v : Value} (h : OwnR E w base v l) (hb : base' ≤ base) : OwnR E w base' v l := by
  obtain ⟨hl, h⟩ := h
  refine ⟨hl, ?_⟩
  rcases h with h | ⟨g', cap, cur, e, h1, h2, h3⟩
  · exact .inl h
  · exact .inr ⟨g', cap, cur, e, Nat.le_trans hb h1, h2, h3⟩
/-- The block of a row is one's own. -/
theorem OwnR.block {base n : Nat} {g o : Nat} {sp} (h : OwnR E w base (.slice (some ⟨g, o, sp⟩) n c) l) : base ≤ g ∧ g < w.heap.size := by
  obtain ⟨_, ⟨e, _⟩ | ⟨g', cap, cur, e, h1, h2, _⟩⟩ := h
  · cases e
  · injection e with e
    injection e with e
    injection e with e1
    subst e1
    exact ⟨h1, (Array.getElem?_eq_some_iff.1 h2).1⟩
/-- A slice onto which one may append: it is full, or one's own. -/
def CanR (E : Elt P α) (w : World) (base : Nat) (A : Option Addr) (c : Nat) (l : List α) : Prop := (c = l.length ∧ SR E w A l) ∨ OwnR E w base (.slice A l.length c) l
theorem CanR.sr {base : Nat} (h : CanR E w base A c l) : SR E w A l := by
  rcases h with ⟨_, h⟩ | h
  · exact h
  · exact h.sr.2
theorem CanR.ext {base : Nat} (h : CanR E w base A c l) (hb : Below w.heap.size w w') : CanR E w' base A c l := by
  rcases h with ⟨hc, h⟩ | h
  · exact .inl ⟨hc, h.ext hb⟩
  · exact .inr (h.ext hb)
theorem firstR_none (w : World) (B : Option Addr) (d k : Nat) : (Builtin.firstCells k 0 (.slice B 0 d)).run P w = .ok #[] w := by
  cases B with
  | none => exact run_firstCells_none w k 0 0 d
  | some ad => exact run_firstCells_some w k 0 ad 0 d [] (by simp) (fun j u hu => by simp at hu)

theorem bothR_own {m : Sem Value} {base c' : Nat} {A' : Option Addr} {k : List α} (hr : m.run P w = .ok (.slice A' (l ++ k).length c') w') (hb : Below base w w') (ho : OwnR E w' base (.slice A' (l ++ k).length c') (l ++ k)) :
    ∃ A' c' w', m.run P w = .ok (.slice A' (l ++ k).length c') w' ∧ CanR E w' base A' c' (l ++ k) ∧ Below base w w' ∧ (l = [] ∨ OwnR E w base (.slice A l.length c) l → l ++ k = [] ∨ OwnR E w' base (.slice A' (l ++ k).length c') (l ++ k)) :=
  ⟨A', c', w', hr, .inr ho, hb, fun _ => .inr ho⟩
theorem run_appR (E : Elt P α) (ty : TypeId) (w : World) (base : Nat) (hbase : base ≤ w.heap.size) (A : Option Addr) (c : Nat) (l : List α) (h : CanR E w base A c l) (B : Option Addr) (d : Nat) (k : List α) (hk : SR E w B k) (hl : l.length + k.length ≤ 10000) :
    ∃ A' c' w', (Builtin.append_ #[E.s, E.s] ty #[.slice A l.length c, .slice B k.length d]).run P w = .ok (.slice A' (l ++ k).length c') w' ∧ CanR E w' base A' c' (l ++ k) ∧ Below base w w' ∧
      (l = [] ∨ OwnR E w base (.slice A l.length c) l → l ++ k = [] ∨ OwnR E w' base (.slice A' (l ++ k).length c') (l ++ k)) := by
  obtain ⟨i0, hi, hz0, hz1, hz2⟩ := info_parts E.hi
  have hpos := E.pos
  obtain ⟨hb1, hb2⟩ := E.few
  by_cases h0 : k = []
  · subst h0
    refine ⟨A, c, w, ?_, by simpa using h, Below.refl _ _, by simp⟩
    have hfc := fun n => firstR_none (P := P) w B d n
    have hle : l.length ≤ c := by
      rcases h with ⟨hc, _⟩ | ⟨_, ⟨e, _⟩ | ⟨g, cap, cur, e, _, _, hle, _⟩⟩
      · omega
      · injection e with e1 e2 e3; omega
      · injection e with e1 e2 e3; omega
    cases A with
    | none =>
      have hl0 : l = [] := by
        rcases Nat.eq_zero_or_pos l.length with e | e
        · exact List.length_eq_zero_iff.1 e
        · obtain ⟨b, off, e', _⟩ := h.sr (SR.len_pos e)
          cases e'
      subst hl0
      simp [Builtin.append_, run_underlying E.hs, sizeOf, typeInfo, hi, Builtin.lenOf, hfc]
    | some ad => simp [Builtin.append_, run_underlying E.hs, sizeOf, typeInfo, hi, Builtin.lenOf, hfc, hle, storeCells]
  · have hp : 0 < k.length := List.length_pos_iff.2 h0
    obtain ⟨b, off, rfl, hb, hc⟩ := hk (SR.len_pos hp)
    have hk' : SR E w (some ⟨b, off, none⟩) k := hk
    rcases h with ⟨rfl, h⟩ | h
    · have hold : (Builtin.firstCells i0.size l.length (.slice A l.length l.length)).run P w.drew = .ok (E.flat l).toArray w.drew := by
        rw [hz1]
        cases A with
        | none =>
          have hl0 : l = [] := by
            rcases Nat.eq_zero_or_pos l.length with e | e
            · exact List.length_eq_zero_iff.1 e
            · obtain ⟨b, off, e', _⟩ := h (SR.len_pos e)
              cases e'
          subst hl0
          exact run_firstCells_none _ E.sz 0 0 0
        | some ad =>
          rcases Nat.eq_zero_or_pos l.length with e | e
          · rw [e, List.length_eq_zero_iff.1 e]
            exact firstR_none _ (some ad) 0 E.sz
          · obtain ⟨b, off, e', _⟩ := h (SR.len_pos e)
            injection e' with e'
            subst e'
            exact run_firstCells_some w.drew E.sz l.length ⟨b, off, none⟩ l.length l.length (E.flat l) (by rw [E.flat_length]) (SR.cells h)
      have hsrc : Src P i0.size E.s (.slice (some ⟨b, off, none⟩) k.length d) k.length (E.flat k) w := by
        rw [hz1]
        exact Src.ofSlice w E.hs ⟨b, off, none⟩ k.length d (E.flat k) (by rw [E.flat_length]) (SR.cells hk') (E.flat_cells k)
      have hr := run_append_grow_src w E.s E.s ty E.e i0 _ E.hs hi hz0 A l.length l.length (E.flat l) hold _ k.length (E.flat k) hsrc (by omega) (by omega)
        (growslice_fits_wide (by omega) (by rw [hz2]; have := Nat.mul_le_mul (show l.length + k.length + (l.length + k.length) / 4 + 192 ≤ 12692 from by omega) hb1; omega))
      have hge := grownCap_ge w (l.length + k.length) l.length E.e
      have hle := grownCap_le_maxLen w (l.length + k.length) l.length E.e (by unfold maxLen; omega)
      refine bothR_own (by rw [List.length_append]; exact hr) ((Below.refl _ _).drew.alloc hbase _) ?_
      refine ⟨E.flat_length _, .inr ⟨w.heap.size, _, _, rfl, hbase, World.alloc_heap_new w.drew _, by rw [List.length_append]; exact hge, hle, ?_, ?_⟩⟩
      · have h3 : l.length * E.sz + k.length * E.sz ≤ grownCap w (l.length + k.length) l.length E.e * E.sz := by rw [← Nat.add_mul]; exact Nat.mul_le_mul_right _ hge
        have h4 := E.hz
        simp [Builtin.zeroCells, E.flat_length]
        first | omega | (rw [h4]; rw [Nat.sub_mul, Nat.add_mul]; omega)
      · have hn : (E.flat l ++ E.flat k).length = (l ++ k).length * E.sz := by rw [← E.flat_append, E.flat_length]
        rw [Array.toList_append, List.take_append_of_le_length (by rw [List.toList_toArray, hn]; exact Nat.le_refl _), List.toList_toArray, List.take_of_length_le (by rw [hn]; exact Nat.le_refl _), E.flat_append]
    · obtain ⟨v', w', hrun, h2, h3, _, h5⟩ := run_append_own_at (P := P) w base E.s ty E.e i0 _ E.sz E.bytes E.hs hi hz0 hz1 hz2 E.hz hpos _ l.length (E.flat l) h ⟨b, off, none⟩ k.length d (E.flat k) (E.flat_length k) (SR.cells hk') (E.flat_cells k) (by unfold maxLen; omega) (by have := Nat.mul_le_mul (show l.length + k.length ≤ 10000 from hl) hb1; omega) hbase
      have hO : OwnR E w' base v' (l ++ k) := by
        unfold OwnR
        rw [E.flat_append, List.length_append]
        exact h2
      have hv : ∃ A' c', v' = .slice A' (l ++ k).length c' := by
        obtain ⟨_, ⟨e, hn⟩ | ⟨g, cap, cur, e, _⟩⟩ := hO
        · exact ⟨none, 0, by rw [e, hn]⟩
        · exact ⟨_, _, e⟩
      obtain ⟨A', c', rfl⟩ := hv
      refine ⟨A', c', w', hrun, .inr hO, ?_, fun _ => .inr hO⟩
      refine (Below.refl base w).grown h3 hbase (fun r e => ?_)
      obtain ⟨_, ⟨e', _⟩ | ⟨g, cap, cur, e', hg, _⟩⟩ := h
      · injection e' with e1
        subst e1
        cases e
      · injection e' with e1
        subst e1
        simp [Value.ownBlock] at e
        omega
theorem wpList_appR (E : Elt P α) {ops : Array Oper} {rest : List Oper} {o : Oper} {a : Act} {Q : Exit → Act → World → Prop} (hgd : o.guard = none) (s x : Operand) (t : TypeId) (ht : t = E.s)
    (ho : o.op = .call { callee := .builtin .append, args := #[s, x], argTypes := #[t, t] })
    (w : World) (base : Nat) (hbase : base ≤ w.heap.size) (A : Option Addr) (c n : Nat) (l : List α) (hn : n = l.length) (h : CanR E w base A c l) (B : Option Addr) (d n' : Nat) (k : List α) (hn' : n' = k.length) (hk : SR E w B k) (hl : l.length + k.length ≤ 10000)
    (hs : a.eval s = .slice A n c) (hx : a.eval x = .slice B n' d)
    (hK : ∀ A' c' w', CanR E w' base A' c' (l ++ k) → Below base w w' → (l = [] ∨ OwnR E w base (.slice A l.length c) l → l ++ k = [] ∨ OwnR E w' base (.slice A' (l ++ k).length c') (l ++ k)) → wpList P ops Q rest (a.put o.dst (.slice A' (l ++ k).length c')) w') : wpList P ops Q (o :: rest) a w := by
  subst hn hn' ht
  refine wpList_plain hgd fun K' hK' => ?_
  obtain ⟨A', c', w', hrun, h2, h3, h4⟩ := run_appR E o.type w base hbase A c l h B d k hk hl
  unfold Oper.wp execOp
  simp only [ho, resolve, invoke, builtin, Sem.run_bind, Sem.run_pure, Result.andThen_ok, List.map_toArray, List.map_cons, List.map_nil, hs, hx, hrun]
  exact hK' _ _ (hK A' c' w' h2 h3 h4)

/-- The slice value '.slice A l.length c' holds the elements l, and its capacity is no less. -/
def CR (E : Elt P α) (w : World) (A : Option Addr) (c : Nat) (l : List α) : Prop := SR E w A l ∧ l.length ≤ c
theorem CR.ext (h : CR E w A c l) (hb : Below w.heap.size w w') : CR E w' A c l := ⟨h.1.ext hb, h.2⟩
theorem CR.nil : CR E w A c [] := ⟨SR.nil, Nat.zero_le _⟩
theorem CanR.cr {base : Nat} (h : CanR E w base A c l) : CR E w A c l := by
  refine ⟨h.sr, ?_⟩
  rcases h with ⟨hc, _⟩ | ⟨_, ⟨e, _⟩ | ⟨g, cap, cur, e, _, _, hle, _⟩⟩
  · omega
  · injection e with e1 e2 e3; omega
  · injection e with e1 e2 e3; omega
/-- What hands back elements. -/
def RowPost (E : Elt P α) (l : List α) (w : World) (e : Ending) (w' : World) : Prop := ∃ A c, e = .returned (.slice A l.length c) ∧ CR E w' A c l ∧ Below w.heap.size w w'
theorem addr_zero (A : Option Addr) : A.map (fun a => a.add 0) = A := by
  cases A with
  | none => rfl
  | some a => obtain ⟨b, o, sp⟩ := a; cases sp <;> simp [Addr.add]
theorem SR.take (h : SR E w A l) (i : Nat) : SR E w A (l.take i) := fun hp => by
  have hle : (E.flat (l.take i)).length ≤ (E.flat l).length := by rw [E.flat_length, E.flat_length]; exact Nat.mul_le_mul_right _ (List.length_take_le' _ _)
  obtain ⟨b, off, e, hb, hc⟩ := h (by omega)
  refine ⟨b, off, e, hb, fun j x hx => hc j x ?_⟩
  have ht : E.flat l = E.flat (l.take i) ++ E.flat (l.drop i) := by rw [← E.flat_append, List.take_append_drop]
  rw [ht, List.getElem?_append_left (List.getElem?_eq_some_iff.1 hx).1]
  exact hx
theorem SR.drop (h : SR E w A l) (i : Nat) : SR E w (A.map (fun a => a.add (i * E.sz))) (l.drop i) := fun hp => by
  have hil : i < l.length := by
    rw [E.flat_length, List.length_drop] at hp
    have := Nat.pos_of_mul_pos_right hp
    omega
  obtain ⟨b, off, e, hb, hc⟩ := h (SR.len_pos (by omega))
  have hpos := E.pos
  refine ⟨b, off + i * E.sz, by rw [e]; rcases Nat.eq_zero_or_pos i with h0 | h0 <;> simp [Addr.add, h0], hb, fun j x hx => ?_⟩
  have ht : E.flat l = E.flat (l.take i) ++ E.flat (l.drop i) := by rw [← E.flat_append, List.take_append_drop]
  have hl : (E.flat (l.take i)).length = i * E.sz := by rw [E.flat_length, List.length_take, Nat.min_eq_left (by omega)]
  have := hc (i * E.sz + j) x (by rw [ht, List.getElem?_append_right (by omega), hl]; simpa using hx)
  rw [show off + i * E.sz + j = off + (i * E.sz + j) by omega]
  exact this
theorem size_elt (E : Elt P α) (w : World) : (sizeOf E.e).run P w = .ok E.sz w := by
  obtain ⟨i0, hi, hz0, hz1, hz2⟩ := info_parts E.hi
  simp [sizeOf, typeInfo, hi, hz1]
/-- l[:i] -/
theorem run_preR (E : Elt P α) (A : Option Addr) (c n : Nat) (i : Int) (hi : 0 ≤ i) (hc : i ≤ c) (W : World) : (Instr.slice E.s (.slice A n c) none (some (.int .i64 i)) none).run P W = .ok (.slice A i.toNat c) W := by
  have hs := size_elt E W
  simp [Instr.slice, run_underlying E.hs, Instr.sliceBounds, Instr.sliceBound, hi, hc, hs, addr_zero, asIntOf]
/-- l[i:] -/
theorem run_sufR (E : Elt P α) (A : Option Addr) (c n : Nat) (i : Int) (hi : 0 ≤ i) (hn : i ≤ n) (W : World) :
    (Instr.slice E.s (.slice A n c) (some (.int .i64 i)) none none).run P W = .ok (.slice (if c = i.toNat then A else A.map (fun a => a.add (i.toNat * E.sz))) (n - i.toNat) (c - i.toNat)) W := by
  have hs := size_elt E W
  simp [Instr.slice, run_underlying E.hs, Instr.sliceBounds, Instr.sliceBound, hi, hn, hs, asIntOf]
theorem CR.suf (h : CR E w A c l) (i : Nat) (hi : i ≤ l.length) : CR E w (if c = i then A else A.map (fun a => a.add (i * E.sz))) (c - i) (l.drop i) := by
  refine ⟨?_, by simp; have := h.2; omega⟩
  by_cases e : c = i
  · rw [if_pos e, List.drop_eq_nil_of_le (by have := h.2; omega)]
    exact SR.nil
  · rw [if_neg e]
    exact h.1.drop i
end
end Go.Proofs.YtmbpjafiinfkkaaGreatDoor
