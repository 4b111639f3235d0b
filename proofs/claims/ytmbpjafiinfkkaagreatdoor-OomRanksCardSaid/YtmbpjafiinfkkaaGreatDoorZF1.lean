/- zone.Fit: a map literal of numbers and errors. -/
import Derived.Test.YtmbpjafiinfkkaaGreatDoorZoneK
import Derived.Test.YtmbpjafiinfkkaaGreatDoorSKeys
namespace Go.Proofs.YtmbpjafiinfkkaaGreatDoor
set_option linter.unusedSimpArgs false
set_option linter.unusedVariables false
open Go.RowKit Go.Maps

/-- An entry of a map literal, into a map of one's own. -/
theorem wpList_insert_own {H : Type} {P : Program} (w : World) {ops : Array Oper} {rest : List Oper} {o : Oper} {a : Act} {Q : Exit → Act → World → Prop}
    (hg : o.guard = none) (m x v : Operand) (t : TypeId) (hop : o.op = Op.insert t m x v)
    (k e : TypeId) (K : Keyed P k) (ht : P.underlying t = some (.map k e)) (R : Value → Option (DataW H × List MemPlace)) (b n : Nat) (D : DataW H)
    (hm : a.eval m = .map (some b)) (hown : w.ownsMap P k R b n D) (hn : n < maxLen) (key val : Value) (kl : Lit) (hx : a.eval x = key) (hv : a.eval v = val) (hkey : keyOf P k key = some kl)
    (d : DataW H) (ps : List MemPlace) (hval : R val = some (d, ps))
    (hK : ∀ w', w'.ownsMap P k R b (n + 1) (D.put kl d) → w.grownBy w' (some b) → wpList P ops Q rest (a.put o.dst undef) w') :
    wpList P ops Q (o :: rest) a w := by
  refine wpList_plain hg fun K' hK' => ?_
  obtain ⟨w', hrun, r1, r2⟩ := hown.update K ht hn hkey hval
  unfold Oper.wp
  simp [execOp, hop, hm, hx, hv, hrun, Result.andThen]
  exact hK' _ _ (hK w' r1 r2)
/-- Block B is a map of at most n entries: those of m. -/
def MapZ (w : World) (B n : Nat) (m : List (Int × Int)) : Prop :=
  ∃ D : DataW Unit, w.ownsMap Tryz.prog 3 (plainElem Tryz.prog 28) B n D ∧ (∀ x, Go.Maps.has D x = true ↔ ∃ p ∈ m, x = .int .i64 p.1) ∧ ∀ p ∈ m, ∀ z, D.atKey (.int .i64 p.1) z = .lit (.int .i64 p.2)
theorem plainElem_errno {v : Int} (h : (Lit.int .i64 v).wf = true) : plainElem (H := Unit) Tryz.prog 28 (.int .i64 v) = some (.lit (.int .i64 v), []) := by
  unfold plainElem
  rw [Tryz.underlying28]
  simp [h]
section
variable {w w' : World} {B n : Nat} {m : List (Int × Int)}
theorem MapZ.new_ (w : World) : MapZ (w.alloc (.map #[] 0)) w.heap.size 0 [] :=
  ⟨.map [], World.ownsMap_made _ _ _ _, fun kl => by simp [Go.Maps.has], fun p hp => by simp at hp⟩
theorem MapZ.lt (h : MapZ w B n m) : B < w.heap.size := by obtain ⟨D, h, _⟩ := h; exact h.lt
theorem MapZ.below_ {C : Nat} (h : MapZ w B n m) (hb : Below C w w') (hB : B < C) : MapZ w' B n m := by
  obtain ⟨D, ⟨es, clock, h1, h⟩, h2⟩ := h
  exact ⟨D, ⟨es, clock, (hb.block B hB).trans h1, h⟩, h2⟩
theorem MapZ.put_ {D : DataW Unit} {i v : Int} (hkey : keyOf Tryz.prog 3 (.int .i64 i) = some (.int .i64 i)) (ho : w.ownsMap Tryz.prog 3 (plainElem Tryz.prog 28) B n D)
    (h1 : ∀ x, Go.Maps.has D x = true ↔ ∃ p ∈ m, x = .int .i64 p.1) (h2 : ∀ p ∈ m, ∀ z, D.atKey (.int .i64 p.1) z = .lit (.int .i64 p.2)) (hn : ∀ p ∈ m, p.1 ≠ i) :
    (∀ x, Go.Maps.has (D.put (.int .i64 i) (.lit (.int .i64 v))) x = true ↔ ∃ p ∈ m ++ [(i, v)], x = .int .i64 p.1) ∧ ∀ p ∈ m ++ [(i, v)], ∀ z, (D.put (.int .i64 i) (.lit (.int .i64 v))).atKey (.int .i64 p.1) z = .lit (.int .i64 p.2) := by
  have hm := ho.isMap
  have hk := intKeyed.key hkey
  refine ⟨fun x => ?_, fun p hp z => ?_⟩
  · by_cases e : x = .int .i64 i
    · subst e
      rw [has_put_same hm hk]
      exact ⟨fun _ => ⟨(i, v), by simp, rfl⟩, fun _ => rfl⟩
    · rw [has_put_other e, h1 x]
      constructor
      · rintro ⟨p, hp, rfl⟩; exact ⟨p, by simp [hp], rfl⟩
      · rintro ⟨p, hp, rfl⟩
        rcases List.mem_append.1 hp with h | h
        · exact ⟨p, h, rfl⟩
        · simp at h; subst h; exact absurd rfl e
  · rcases List.mem_append.1 hp with h | h
    · have e : (Lit.int .i64 p.1) ≠ .int .i64 i := fun e => hn p h (by injection e)
      rw [atKey_put_other e, h2 p h z]
    · simp at h; subst h; rw [atKey_put_same hm hk]
theorem MapZ.look (h : MapZ w B n m) {i v : Int} (hi : (i, v) ∈ m) (hkey : keyOf Tryz.prog 3 (.int .i64 i) = some (.int .i64 i)) :
    (Instr.lookup 120 (.map (some B)) (.int .i64 i) false).run Tryz.prog w = .ok (.int .i64 v) w := by
  obtain ⟨D, h, h1, h2⟩ := h
  have hz : (zeroValue 28).run Tryz.prog w = .ok (.int .i64 0) w := by first | exact Tryz.zeroValue28 w | simp [go_sem]
  obtain ⟨u, ps, hrun, hv⟩ := h.lookup intKeyed Tryz.underlying120 hz (plainElem_errno (by decide)) hkey
  rw [h2 (i, v) hi] at hv
  have hu : u = .int .i64 v := by
    obtain ⟨a, rfl, e, _⟩ := plainElem_int_inv Tryz.underlying28 hv
    simp at e
    rw [e.1]
  rw [hu] at hrun
  exact hrun
theorem MapZ.keys (h : MapZ w B n m) (ha : (m.map (·.1)).Pairwise (· < ·)) : ∃ D : DataW Unit, w.ownsMap Tryz.prog 3 (plainElem Tryz.prog 28) B n D ∧ keysS D = m.map (·.1) := by
  obtain ⟨D, h, h1, _⟩ := h
  refine ⟨D, h, keysS_eq h ha (fun x => ?_)⟩
  rw [h1, List.mem_map]
  constructor
  · rintro ⟨p, hp, rfl⟩; exact ⟨p, hp, rfl⟩
  · rintro ⟨p, hp, e⟩
    injection e with _ e
    exact ⟨p, hp, e.symm⟩
end
/-- An entry of the literal, at the operation. -/
theorem wpList_insertZ {ops : Array Oper} {rest : List Oper} {o : Oper} {a : Act} {Z : Exit → Act → World → Prop} (w : World) (hg : o.guard = none) (mo x vo : Operand) (hop : o.op = Op.insert 120 mo x vo)
    (B n : Nat) (m : List (Int × Int)) (hm : a.eval mo = .map (some B)) (h : MapZ w B n m) (hn : n < maxLen) (i v : Int) (hx : a.eval x = .int .i64 i) (hv : a.eval vo = .int .i64 v) (hkey : keyOf Tryz.prog 3 (.int .i64 i) = some (.int .i64 i)) (hwf : (Lit.int .i64 v).wf = true) (hno : ∀ p ∈ m, p.1 ≠ i)
    (hK : ∀ w', MapZ w' B (n + 1) (m ++ [(i, v)]) → w.grownBy w' (some B) → wpList Tryz.prog ops Z rest (a.put o.dst undef) w') : wpList Tryz.prog ops Z (o :: rest) a w := by
  obtain ⟨D, ho, h1, h2⟩ := h
  exact wpList_insert_own w hg mo x vo _ hop _ _ intKeyed Tryz.underlying120 _ B n D hm ho hn _ _ _ hx hv hkey _ [] (plainElem_errno hwf) fun w' ho' hg' =>
    hK w' ⟨_, ho', MapZ.put_ hkey ho h1 h2 hno⟩ hg'
set_option maxHeartbeats 400000 in
theorem unless_any (b : Bool) (e : Int) (w : World) : Calls Tryz.prog 75 #[.bool b, .int .i64 e] w fun en w' => en = .returned (.int .i64 (if b then 0 else e)) ∧ w = w' := by
  cases b
  all_goals
    go_enter Tryz.func75, Tryz.ntmps75
    go_wp2
    go_ret
    exact ⟨rfl, rfl⟩
/-- A guarded operation that only reckons, on both ways at once: its slot holds some u, which is v if it ran. -/
theorem wpList_gd {P : Program} {ops : Array Oper} {rest : List Oper} {o : Oper} {a : Act} {Q : Exit → Act → World → Prop} {w : World} (v : Value)
    (hrun : Region.wanted o (yielded ops a.tmps) = true → ∀ (K : Act → World → Prop) (Q' : Exit → Act → World → Prop), K (a.put o.dst v) w → o.wp P a w K Q')
    (hK : ∀ u, (Region.wanted o (yielded ops a.tmps) = true → u = v) → wpList P ops Q rest (a.put o.dst u) w) : wpList P ops Q (o :: rest) a w := by
  unfold wpList
  split
  · rename_i h
    exact .inl (hrun h _ _ (hK v (fun _ => rfl)))
  · rename_i h
    exact hK undef (fun h' => absurd h' h)
end Go.Proofs.YtmbpjafiinfkkaaGreatDoor
