/- append to a row of structs of one's own (as in RmL, by itself). -/
import Derived.Test.YtmbpjafiinfkkaaGreatDoorRow
namespace Go.Proofs.YtmbpjafiinfkkaaGreatDoor
set_option linter.unusedSimpArgs false
set_option linter.unusedVariables false
open Go.RowKit Go.Maps

/-- append to a row of one's own, and what of the world has turned. -/
theorem run_ownR {α : Type} (E : Elt Tryz.prog α) (ty : TypeId) (w : World) (base : Nat) (hbase : base ≤ w.heap.size) (A : Option Addr) (c : Nat) (l : List α) (h : OwnR E w base (.slice A l.length c) l) (B : Option Addr) (d : Nat) (k : List α) (hk : SR E w B k) (hp : 0 < k.length) (hl : l.length + k.length ≤ 10000) :
    ∃ A' c' w', (Builtin.append_ #[E.s, E.s] ty #[.slice A l.length c, .slice B k.length d]).run Tryz.prog w = .ok (.slice A' (l ++ k).length c') w' ∧ OwnR E w' base (.slice A' (l ++ k).length c') (l ++ k) ∧ Below base w w' ∧ w.grownBy w' (Value.ownBlock (.slice A l.length c)) := by
  obtain ⟨i0, hi, hz0, hz1, hz2⟩ := info_parts E.hi
  have hpos := E.pos
  obtain ⟨hb1, hb2⟩ := E.few
  obtain ⟨b, off, rfl, hb, hc⟩ := hk (SR.len_pos hp)
  have hk' : SR E w (some ⟨b, off, none⟩) k := hk
  obtain ⟨v', w', hrun, h2, h3, _, h5⟩ := run_append_own_at (P := Tryz.prog) w base E.s ty E.e i0 _ E.sz E.bytes E.hs hi hz0 hz1 hz2 E.hz hpos _ l.length (E.flat l) h ⟨b, off, none⟩ k.length d (E.flat k) (E.flat_length k) (SR.cells hk') (E.flat_cells k) (by unfold maxLen; omega) (by have := Nat.mul_le_mul (show l.length + k.length ≤ 10000 from hl) hb1; omega) hbase
  have hO : OwnR E w' base v' (l ++ k) := by
    unfold OwnR
    rw [E.flat_append, List.length_append]
    exact h2
  have hv : ∃ A' c', v' = .slice A' (l ++ k).length c' := by
    obtain ⟨_, ⟨e, hn⟩ | ⟨g, cap, cur, e, _⟩⟩ := hO
    · exact ⟨none, 0, by rw [e, hn]⟩
    · exact ⟨_, _, e⟩
  obtain ⟨A', c', rfl⟩ := hv
  refine ⟨A', c', w', hrun, hO, ?_, h3⟩
  refine (Below.refl base w).grown h3 hbase (fun r e => ?_)
  obtain ⟨_, ⟨e', _⟩ | ⟨g, cap, cur, e', hg, _⟩⟩ := h
  · injection e' with e1
    subst e1
    cases e
  · injection e' with e1
    subst e1
    simp [Value.ownBlock] at e
    omega
theorem wpList_ownR {α : Type} (E : Elt Tryz.prog α) {ops : Array Oper} {rest : List Oper} {o : Oper} {a : Act} {Q : Exit → Act → World → Prop} (hgd : o.guard = none) (s x : Operand) (t : TypeId) (ht : t = E.s)
    (ho : o.op = .call { callee := .builtin .append, args := #[s, x], argTypes := #[t, t] })
    (w : World) (base : Nat) (hbase : base ≤ w.heap.size) (A : Option Addr) (c n : Nat) (l : List α) (hn : n = l.length) (h : OwnR E w base (.slice A l.length c) l) (B : Option Addr) (d n' : Nat) (k : List α) (hn' : n' = k.length) (hk : SR E w B k) (hp : 0 < k.length) (hl : l.length + k.length ≤ 10000)
    (hs : a.eval s = .slice A n c) (hx : a.eval x = .slice B n' d)
    (hK : ∀ A' c' w', OwnR E w' base (.slice A' (l ++ k).length c') (l ++ k) → Below base w w' → w.grownBy w' (Value.ownBlock (.slice A l.length c)) → wpList Tryz.prog ops Q rest (a.put o.dst (.slice A' (l ++ k).length c')) w') : wpList Tryz.prog ops Q (o :: rest) a w := by
  subst hn hn' ht
  refine wpList_plain hgd fun K' hK' => ?_
  obtain ⟨A', c', w', hrun, h2, h3, h4⟩ := run_ownR E o.type w base hbase A c l h B d k hk hp hl
  unfold Oper.wp execOp
  simp only [ho, resolve, invoke, builtin, Sem.run_bind, Sem.run_pure, Result.andThen_ok, List.map_toArray, List.map_cons, List.map_nil, hs, hx, hrun]
  exact hK' _ _ (hK A' c' w' h2 h3 h4)
end Go.Proofs.YtmbpjafiinfkkaaGreatDoor
