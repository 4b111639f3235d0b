/- append onto a row of the call's own, from any slice (nil too), of elements of one cell. -/
import Derived.Test.YtmbpjafiinfkkaaGreatDoorSlices
import Derived.Maps.AppendAt
namespace Go.Proofs.YtmbpjafiinfkkaaGreatDoor
set_option linter.unusedSimpArgs false
set_option linter.unusedVariables false
open Go.RowKit Go.Maps

theorem ownBlock_slice' (A : Option Addr) (n c : Nat) : (Value.slice A n c).ownBlock = A.map (·.block) := by cases A <;> rfl
section
variable {P : Program} {α : Type} {mk : α → Value} (w : World)
theorem run_appS' (t ty e : TypeId) (i : TypeInfo) (z : Value) (bytes : Nat) (ht : P.underlying t = some (.slice e)) (hi : P.info? e = some i) (hz : i.zero = some z) (hsize : i.size = 1) (hby : i.bytes = bytes) (hzs : z.cells.size = 1)
    (base : Nat) (A0 : Option Addr) (c0 : Nat) (xs : List α) (hown : Own w base e mk (.slice A0 xs.length c0) xs) (A : Option Addr) (c : Nat) (ys : List α) (hp : 0 < ys.length) (h : Sl w mk A ys) (h1 : ∀ u ∈ ys.map mk, u.oneCell' = true)
    (hl : (xs.length + ys.length) * bytes ≤ 140737488355328) (hl' : xs.length + ys.length ≤ 1000000) (hbase : base ≤ w.heap.size) :
    ∃ A' c' w', (Builtin.append_ #[t, t] ty #[.slice A0 xs.length c0, .slice A ys.length c]).run P w = .ok (.slice A' (xs ++ ys).length c') w' ∧ Own w' base e mk (.slice A' (xs ++ ys).length c') (xs ++ ys) ∧ Below base w w' := by
  obtain ⟨b, off, rfl, _⟩ := h hp
  obtain ⟨v', w', hrun, h2, h3, _, h5⟩ := run_append_own_at (P := P) w base t ty e i z 1 bytes ht hi hz hsize hby hzs (by omega) _ xs.length (xs.map mk) hown ⟨b, off, none⟩ ys.length c (ys.map mk) (by simp) h.cells h1 (by unfold maxLen; omega) hl hbase
  have hO : Own w' base e mk v' (xs ++ ys) := by
    show w'.ownsRow _ _ _ _ _ _
    rw [List.map_append, List.length_append]
    exact h2
  obtain ⟨A', c', rfl, _⟩ := hO.sl
  refine ⟨A', c', w', hrun, hO, (Below.refl base w).grown h3 hbase (fun r e => ?_)⟩
  rw [ownBlock_slice'] at e
  rcases hown.form with ⟨e0, _⟩ | ⟨g, cur, e0, hg, _⟩
  · injection e0 with e1
    subst e1
    cases e
  · injection e0 with e1
    subst e1
    simp at e
    omega
theorem wpList_appS' {ops : Array Oper} {rest : List Oper} {o : Oper} {a : Act} {Q : Exit → Act → World → Prop} (hgd : o.guard = none) (s x : Operand) (t : TypeId)
    (ho : o.op = .call { callee := .builtin .append, args := #[s, x], argTypes := #[t, t] })
    (e : TypeId) (i : TypeInfo) (z : Value) (bytes : Nat) (ht : P.underlying t = some (.slice e)) (hi : P.info? e = some i) (hz : i.zero = some z) (hsize : i.size = 1) (hby : i.bytes = bytes) (hzs : z.cells.size = 1)
    (base : Nat) (A0 : Option Addr) (c0 : Nat) (xs : List α) (hs : a.eval s = .slice A0 xs.length c0) (hown : Own w base e mk (.slice A0 xs.length c0) xs) (A : Option Addr) (c : Nat) (ys : List α) (hp : 0 < ys.length) (hx : a.eval x = .slice A ys.length c) (h : Sl w mk A ys)
    (h1 : ∀ u ∈ ys.map mk, u.oneCell' = true) (hl : (xs.length + ys.length) * bytes ≤ 140737488355328) (hl' : xs.length + ys.length ≤ 1000000) (hbase : base ≤ w.heap.size)
    (hK : ∀ A' c' w', Own w' base e mk (.slice A' (xs ++ ys).length c') (xs ++ ys) → Below base w w' → wpList P ops Q rest (a.put o.dst (.slice A' (xs ++ ys).length c')) w') : wpList P ops Q (o :: rest) a w := by
  refine wpList_plain hgd fun K' hK' => ?_
  obtain ⟨A', c', w', hrun, h2, h3⟩ := run_appS' w t o.type e i z bytes ht hi hz hsize hby hzs base A0 c0 xs hown A c ys hp h h1 hl hl' hbase
  unfold Oper.wp execOp
  simp only [ho, resolve, invoke, builtin, Sem.run_bind, Sem.run_pure, Result.andThen_ok, List.map_toArray, List.map_cons, List.map_nil, hs, hx, hrun]
  exact hK' _ _ (hK A' c' w' h2 h3)
end
end Go.Proofs.YtmbpjafiinfkkaaGreatDoor
