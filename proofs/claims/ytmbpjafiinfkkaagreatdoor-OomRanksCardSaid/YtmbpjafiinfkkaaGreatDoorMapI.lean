/- A map[int]int of one's own, as a function to optional ints. No statement is proved here. -/
import Derived.Test.YtmbpjafiinfkkaaGreatDoorSKeys
namespace Go.Proofs.YtmbpjafiinfkkaaGreatDoor
set_option linter.unusedSimpArgs false
set_option linter.unusedVariables false
open Go.RowKit Go.Maps

theorem plainElem_i {v : Int} (h : (Lit.int .i64 v).wf = true) : plainElem (H := Unit) Tryz.prog 3 (.int .i64 v) = some (.lit (.int .i64 v), []) := by
  unfold plainElem
  rw [Tryz.underlying3]
  simp [h]
theorem key_i {i : Int} (h : (Lit.int .i64 i).wf = true) : keyOf Tryz.prog 3 (.int .i64 i) = some (.int .i64 i) := keyOf_int_mk Tryz.underlying3 h
theorem size_intKeys {H : Type} {w : World} {P : Program} {k : TypeId} {B n : Nat} {R : Value → Option (DataW H × List MemPlace)} {D : DataW H} (h : w.ownsMap P k R B n D) : (intKeys D).length = Go.Maps.size D := by
  obtain ⟨es, rfl⟩ := h.isMap
  simp [intKeys, Go.Maps.size]
/-- Block B is a map of at most n entries: those of m. -/
def MapI (w : World) (B n : Nat) (m : Int → Option Int) : Prop :=
  ∃ D : DataW Unit, w.ownsMap Tryz.prog 3 (plainElem Tryz.prog 3) B n D ∧ (∀ x, Go.Maps.has D x = true ↔ ∃ i v, x = .int .i64 i ∧ m i = some v) ∧ ∀ i v, m i = some v → ∀ z, D.atKey (.int .i64 i) z = .lit (.int .i64 v)
section
variable {w w' : World} {B n : Nat} {m : Int → Option Int}
theorem MapI.new_ (w : World) : MapI (w.alloc (.map #[] 0)) w.heap.size 0 (fun _ => none) :=
  ⟨.map [], World.ownsMap_made _ _ _ _, fun kl => by simp [Go.Maps.has], fun i v hp => by cases hp⟩
theorem MapI.lt (h : MapI w B n m) : B < w.heap.size := by obtain ⟨D, h, _⟩ := h; exact h.lt
theorem MapI.below_ {C : Nat} (h : MapI w B n m) (hb : Below C w w') (hB : B < C) : MapI w' B n m := by
  obtain ⟨D, ⟨es, clock, h1, h⟩, h2⟩ := h
  exact ⟨D, ⟨es, clock, (hb.block B hB).trans h1, h⟩, h2⟩
theorem MapI.kept {row : Option Nat} (h : MapI w B n m) (hg : w.grownBy w' row) (hne : some B ≠ row) : MapI w' B n m := by
  obtain ⟨D, h, h2⟩ := h
  exact ⟨D, h.kept hg hne, h2⟩
theorem MapI.ext (h : MapI w B n m) (hb : Below w.heap.size w w') : MapI w' B n m := h.below_ hb h.lt
theorem MapI.mono {n' : Nat} (h : MapI w B n m) (hn : n ≤ n') : MapI w B n' m := by
  obtain ⟨D, h, h2⟩ := h
  exact ⟨D, h.mono hn, h2⟩
theorem MapI.congr {m' : Int → Option Int} (h : MapI w B n m) (e : m = m') : MapI w B n m' := e ▸ h
theorem MapI.put_ {D : DataW Unit} {i v : Int} (hkey : keyOf Tryz.prog 3 (.int .i64 i) = some (.int .i64 i)) (ho : w.ownsMap Tryz.prog 3 (plainElem Tryz.prog 3) B n D)
    (h1 : ∀ x, Go.Maps.has D x = true ↔ ∃ i v, x = .int .i64 i ∧ m i = some v) (h2 : ∀ i v, m i = some v → ∀ z, D.atKey (.int .i64 i) z = .lit (.int .i64 v)) :
    (∀ x, Go.Maps.has (D.put (.int .i64 i) (.lit (.int .i64 v))) x = true ↔ ∃ j u, x = .int .i64 j ∧ (if j = i then some v else m j) = some u) ∧ ∀ j u, (if j = i then some v else m j) = some u → ∀ z, (D.put (.int .i64 i) (.lit (.int .i64 v))).atKey (.int .i64 j) z = .lit (.int .i64 u) := by
  have hm := ho.isMap
  have hk := intKeyed.key hkey
  refine ⟨fun x => ?_, fun j u hj z => ?_⟩
  · by_cases e : x = .int .i64 i
    · subst e
      rw [has_put_same hm hk]
      exact ⟨fun _ => ⟨i, v, rfl, by rw [if_pos rfl]⟩, fun _ => rfl⟩
    · rw [has_put_other e, h1 x]
      constructor
      · rintro ⟨j, u, rfl, h⟩
        exact ⟨j, u, rfl, by rw [if_neg (fun e' => e (by rw [e'])), h]⟩
      · rintro ⟨j, u, rfl, h⟩
        rw [if_neg (fun e' => e (by rw [e']))] at h
        exact ⟨j, u, rfl, h⟩
  · by_cases e : j = i
    · subst e
      rw [if_pos rfl] at hj
      cases hj
      rw [atKey_put_same hm hk]
    · rw [if_neg e] at hj
      rw [atKey_put_other (fun e' => e (by injection e')), h2 j u hj z]
theorem MapI.del_ {D : DataW Unit} {i : Int} (h1 : ∀ x, Go.Maps.has D x = true ↔ ∃ i v, x = .int .i64 i ∧ m i = some v) (h2 : ∀ i v, m i = some v → ∀ z, D.atKey (.int .i64 i) z = .lit (.int .i64 v)) :
    (∀ x, Go.Maps.has (D.del (.int .i64 i)) x = true ↔ ∃ j u, x = .int .i64 j ∧ (if j = i then none else m j) = some u) ∧ ∀ j u, (if j = i then none else m j) = some u → ∀ z, (D.del (.int .i64 i)).atKey (.int .i64 j) z = .lit (.int .i64 u) := by
  refine ⟨fun x => ?_, fun j u hj z => ?_⟩
  · by_cases e : x = .int .i64 i
    · subst e
      rw [has_del_same]
      constructor
      · intro h; cases h
      · rintro ⟨j, u, hj, h⟩
        injection hj with _ hj
        rw [if_pos hj.symm] at h
        cases h
    · rw [has_del_other e, h1 x]
      constructor
      · rintro ⟨j, u, rfl, h⟩
        exact ⟨j, u, rfl, by rw [if_neg (fun e' => e (by rw [e'])), h]⟩
      · rintro ⟨j, u, rfl, h⟩
        rw [if_neg (fun e' => e (by rw [e']))] at h
        exact ⟨j, u, rfl, h⟩
  · by_cases e : j = i
    · subst e; rw [if_pos rfl] at hj; cases hj
    · rw [if_neg e] at hj
      rw [atKey_del_other (fun e' => e (by injection e')), h2 j u hj z]
theorem MapI.look (h : MapI w B n m) {i v : Int} (hi : m i = some v) (hkey : keyOf Tryz.prog 3 (.int .i64 i) = some (.int .i64 i)) :
    (Instr.lookup 69 (.map (some B)) (.int .i64 i) false).run Tryz.prog w = .ok (.int .i64 v) w := by
  obtain ⟨D, h, h1, h2⟩ := h
  have hz : (zeroValue 3).run Tryz.prog w = .ok (.int .i64 0) w := by first | exact Tryz.zeroValue3 w | simp [go_sem]
  obtain ⟨u, ps, hrun, hv⟩ := h.lookup intKeyed Tryz.underlying69 hz (plainElem_i (by decide)) hkey
  rw [h2 i v hi] at hv
  have hu : u = .int .i64 v := by
    obtain ⟨a, rfl, e, _⟩ := plainElem_int_inv Tryz.underlying3 hv
    simp at e
    rw [e.1]
  rw [hu] at hrun
  exact hrun
theorem MapI.keys (h : MapI w B n m) {ss : List Int} (ha : ss.Pairwise (· < ·)) (hs : ∀ j, j ∈ ss ↔ ∃ s, m j = some s) : ∃ D : DataW Unit, w.ownsMap Tryz.prog 3 (plainElem Tryz.prog 3) B n D ∧ keysS D = ss := by
  obtain ⟨D, h, h1, _⟩ := h
  refine ⟨D, h, keysS_eq h ha (fun x => ?_)⟩
  rw [h1, hs]
  constructor
  · rintro ⟨v, hv⟩; exact ⟨x, v, rfl, hv⟩
  · rintro ⟨i, v, e, hv⟩
    injection e with _ e
    subst e
    exact ⟨v, hv⟩
theorem MapI.len (h : MapI w B n m) {ss : List Int} (ha : ss.Pairwise (· < ·)) (hs : ∀ j, j ∈ ss ↔ ∃ s, m j = some s) (ty : TypeId) : (Builtin.len_ #[69] ty #[.map (some B)]).run Tryz.prog w = .ok (.int .i64 (ss.length : Nat)) w := by
  obtain ⟨D, h, h2⟩ := h.keys ha hs
  have h3 : (keysS D).length = Go.Maps.size D := by
    unfold keysS srt
    rw [List.length_mergeSort, size_intKeys h]
  rw [h.len Tryz.underlying69 ty, ← h3, h2]
end
/-- 'm[i] = v' at the operation. -/
theorem wpList_putI {ops : Array Oper} {rest : List Oper} {o : Oper} {a : Act} {Z : Exit → Act → World → Prop} (w : World) (hg : o.guard = none) (mo x vo : Operand) (hop : o.op = Op.mapUpdate 69 mo x vo)
    (B n : Nat) (m : Int → Option Int) (hm : a.eval mo = .map (some B)) (h : MapI w B n m) (hn : n < maxLen) (i v : Int) (hx : a.eval x = .int .i64 i) (hv : a.eval vo = .int .i64 v) (hkey : keyOf Tryz.prog 3 (.int .i64 i) = some (.int .i64 i)) (hwf : (Lit.int .i64 v).wf = true)
    (hK : ∀ w', MapI w' B (n + 1) (fun j => if j = i then some v else m j) → w.grownBy w' (some B) → wpList Tryz.prog ops Z rest (a.put o.dst undef) w') : wpList Tryz.prog ops Z (o :: rest) a w := by
  obtain ⟨D, ho, h1, h2⟩ := h
  exact wpList_mapUpdate_own w hg mo x vo _ hop _ _ intKeyed Tryz.underlying69 _ B n D hm ho hn _ _ _ hx hv hkey _ [] (plainElem_i hwf) fun w' ho' hg' =>
    hK w' ⟨_, ho', MapI.put_ hkey ho h1 h2⟩ hg'
/-- 'delete(m, i)' at the operation. -/
theorem wpList_delI {ops : Array Oper} {rest : List Oper} {o : Oper} {a : Act} {Z : Exit → Act → World → Prop} (w : World) (hg : o.guard = none) (mo x : Operand) (hop : o.op = Op.call { callee := Callee.builtin Builtin.delete, args := #[mo, x], argTypes := #[69, 3] })
    (B n : Nat) (m : Int → Option Int) (hm : a.eval mo = .map (some B)) (h : MapI w B n m) (i : Int) (hx : a.eval x = .int .i64 i) (hkey : keyOf Tryz.prog 3 (.int .i64 i) = some (.int .i64 i))
    (hK : ∀ w', MapI w' B n (fun j => if j = i then none else m j) → w.grownBy w' (some B) → wpList Tryz.prog ops Z rest (a.put o.dst (.tuple #[])) w') : wpList Tryz.prog ops Z (o :: rest) a w := by
  obtain ⟨D, ho, h1, h2⟩ := h
  exact wpList_delete_own w hg mo x _ _ hop _ intKeyed Tryz.underlying69 _ B n D hm ho _ _ hx hkey fun w' ho' hg' =>
    hK w' ⟨_, ho', MapI.del_ h1 h2⟩ hg'.grown
end Go.Proofs.YtmbpjafiinfkkaaGreatDoor
