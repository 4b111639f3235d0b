/- append onto a row of the call's own, from any slice (nil too): the law in this seat's words (XApp's, without XLru2). -/
import Derived.Test.YtbeddhamnefpiaaAppI
import Derived.Maps.AppendAt
namespace Go.Proofs.Ytbeddhamnefpiaa
set_option linter.unusedSimpArgs false
set_option linter.unusedVariables false
open Go.RowKit Go.Maps

section
variable {P : Program} {α : Type} {mk : α → Value} (w : World)
theorem run_appJ (t ty e : TypeId) (i : TypeInfo) (z : Value) (bytes : Nat) (ht : P.underlying t = some (.slice e)) (hi : P.info? e = some i) (hz : i.zero = some z) (hsize : i.size = 1) (hby : i.bytes = bytes) (hzs : z.cells.size = 1)
    (base : Nat) (A0 : Option Addr) (c0 : Nat) (xs : List α) (hown : Own w base e mk (.slice A0 xs.length c0) xs) (A : Option Addr) (c : Nat) (ys : List α) (h : Sl w mk A ys) (h1 : ∀ u ∈ ys.map mk, u.oneCell' = true)
    (hl : (xs.length + ys.length) * bytes ≤ 140737488355328) (hl' : xs.length + ys.length ≤ 1000000) (hbase : base ≤ w.heap.size) :
    ∃ A' c' w', (Builtin.append_ #[t, t] ty #[.slice A0 xs.length c0, .slice A ys.length c]).run P w = .ok (.slice A' (xs ++ ys).length c') w' ∧ Own w' base e mk (.slice A' (xs ++ ys).length c') (xs ++ ys) ∧ w.grownBy w' (A0.map (·.block)) ∧
      (A'.map (·.block) = A0.map (·.block) ∨ ∃ g, A'.map (·.block) = some g ∧ w.heap.size ≤ g) := by
  by_cases h0 : ys = []
  · subst h0
    refine ⟨A0, c0, w, ?_, by simpa using hown, grown_refl _ _, .inl rfl⟩
    have hfc : ∀ k, (Builtin.firstCells k 0 (.slice A 0 c)).run P w = .ok #[] w := by
      intro k
      cases A with
      | none => exact run_firstCells_none w k 0 0 c
      | some ad => exact run_firstCells_some w k 0 ad 0 c [] (by simp) (fun j u hu => by simp at hu)
    rcases hown.form with ⟨e0, rfl⟩ | ⟨g, cur, e0, _, _, hs, _, _⟩
    · injection e0 with e1 _ e2
      subst e1 e2
      simp [Builtin.append_, run_underlying ht, sizeOf, typeInfo, hi, Builtin.lenOf, hfc]
    · injection e0 with e1 _ e2
      subst e1 e2
      simp [Builtin.append_, run_underlying ht, sizeOf, typeInfo, hi, Builtin.lenOf, hfc, hs, storeCells]
  · have hp : 0 < ys.length := List.length_pos_iff.2 h0
    obtain ⟨b, off, rfl, _⟩ := h hp
    obtain ⟨v', w', hrun, h2, h3, _, h5⟩ := run_append_own_at (P := P) w base t ty e i z 1 bytes ht hi hz hsize hby hzs (by omega) _ xs.length (xs.map mk) hown ⟨b, off, none⟩ ys.length c (ys.map mk) (by simp) h.cells h1 (by unfold maxLen; omega) hl hbase
    have hO : Own w' base e mk v' (xs ++ ys) := by
      show w'.ownsRow _ _ _ _ _ _
      rw [List.map_append, List.length_append]
      exact h2
    obtain ⟨A', c', rfl, _⟩ := hO.sl
    rw [ownBlock_slice'] at h3 h5
    rw [ownBlock_slice'] at h5
    refine ⟨A', c', w', hrun, hO, h3, ?_⟩
    rcases h5 with h5 | h5
    · exact .inl h5
    · exact .inr ⟨_, h5, Nat.le_refl _⟩

theorem wpList_appJ {ops : Array Oper} {rest : List Oper} {o : Oper} {a : Act} {Q : Exit → Act → World → Prop} (hgd : o.guard = none) (s x : Operand) (t : TypeId)
    (ho : o.op = .call { callee := .builtin .append, args := #[s, x], argTypes := #[t, t] })
    (e : TypeId) (i : TypeInfo) (z : Value) (bytes : Nat) (ht : P.underlying t = some (.slice e)) (hi : P.info? e = some i) (hz : i.zero = some z) (hsize : i.size = 1) (hby : i.bytes = bytes) (hzs : z.cells.size = 1)
    (base : Nat) (A0 : Option Addr) (c0 : Nat) (xs : List α) (hs : a.eval s = .slice A0 xs.length c0) (hown : Own w base e mk (.slice A0 xs.length c0) xs) (A : Option Addr) (c : Nat) (ys : List α) (hx : a.eval x = .slice A ys.length c) (h : Sl w mk A ys)
    (h1 : ∀ u ∈ ys.map mk, u.oneCell' = true) (hl : (xs.length + ys.length) * bytes ≤ 140737488355328) (hl' : xs.length + ys.length ≤ 1000000) (hbase : base ≤ w.heap.size)
    (hK : ∀ A' c' w', Own w' base e mk (.slice A' (xs ++ ys).length c') (xs ++ ys) → w.grownBy w' (A0.map (·.block)) → (A'.map (·.block) = A0.map (·.block) ∨ ∃ g, A'.map (·.block) = some g ∧ w.heap.size ≤ g) →
      wpList P ops Q rest (a.put o.dst (.slice A' (xs ++ ys).length c')) w') : wpList P ops Q (o :: rest) a w := by
  refine wpList_plain hgd fun K' hK' => ?_
  obtain ⟨A', c', w', hrun, h2, h3, h4⟩ := run_appJ w t o.type e i z bytes ht hi hz hsize hby hzs base A0 c0 xs hown A c ys h h1 hl hl' hbase
  unfold Oper.wp execOp
  simp only [ho, resolve, invoke, builtin, Sem.run_bind, Sem.run_pure, Result.andThen_ok, List.map_toArray, List.map_cons, List.map_nil, hs, hx, hrun]
  exact hK' _ _ (hK A' c' w' h2 h3 h4)
end
end Go.Proofs.Ytbeddhamnefpiaa
