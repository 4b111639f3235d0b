/- A map with bool elements as a set of keys: made, written, deleted from, asked, gone through. No statement is proved here. -/
import Derived.Test.YtmbpjafiinfkkaaGreatDoorMem
import Derived.Maps.RangeWalk
import Derived.Maps.OwnIn
import Derived.Maps.Ext
import Derived.DeepKeys4
import Derived.WideKeyPair
namespace Go.Proofs.YtmbpjafiinfkkaaGreatDoor
set_option linter.unusedSimpArgs false
set_option linter.unusedVariables false
open Go.RowKit Go.Maps

theorem plainElem_bool_inv {P : Program} {e : TypeId} (he : P.underlying e = some .bool) {v : Value} {b : Bool} {ps : List MemPlace} (h : plainElem (H := Unit) P e v = some (.lit (.bool b), ps)) : v = .bool b := by
  unfold plainElem at h
  rw [he] at h
  cases v <;> simp at h
  rw [h.1]
/-- Block B is a map of at most n entries, whose keys are just those of Q, with true at each. -/
def SetB (w : World) (K : TypeId) (B n : Nat) (Q : Lit → Prop) : Prop :=
  ∃ D : DataW Unit, w.ownsMap Tryz.prog K (plainElem Tryz.prog 4) B n D ∧ (∀ kl, Go.Maps.has D kl = true ↔ Q kl) ∧ ∀ kl z, Go.Maps.has D kl = true → D.atKey kl z = .lit (.bool true)
section
variable {w w' : World} {K : TypeId} {B n : Nat} {Q Q' : Lit → Prop}
theorem SetB.new_ (w : World) (K : TypeId) : SetB (w.alloc (.map #[] 0)) K w.heap.size 0 (fun _ => False) :=
  ⟨.map [], World.ownsMap_made _ _ _ _, fun kl => by simp [Go.Maps.has], fun kl z h => by simp [Go.Maps.has] at h⟩
theorem SetB.lt (h : SetB w K B n Q) : B < w.heap.size := by obtain ⟨D, h, _⟩ := h; exact h.lt
theorem SetB.kept {row : Option Nat} (h : SetB w K B n Q) (hg : w.grownBy w' row) (hne : some B ≠ row) : SetB w' K B n Q := by
  obtain ⟨D, h, h2⟩ := h
  exact ⟨D, h.kept hg hne, h2⟩
theorem SetB.below_ {C : Nat} (h : SetB w K B n Q) (hb : Below C w w') (hB : B < C) : SetB w' K B n Q := by
  obtain ⟨D, ⟨es, clock, h1, h⟩, h2⟩ := h
  exact ⟨D, ⟨es, clock, (hb.block B hB).trans h1, h⟩, h2⟩
theorem SetB.mono (h : SetB w K B n Q) {n' : Nat} (hn : n ≤ n') : SetB w K B n' Q := by
  obtain ⟨D, h, h2⟩ := h
  exact ⟨D, h.mono hn, h2⟩
theorem SetB.congr (h : SetB w K B n Q) (e : ∀ kl, Q kl ↔ Q' kl) : SetB w K B n Q' := by
  obtain ⟨D, h, h2, h3⟩ := h
  exact ⟨D, h, fun kl => (h2 kl).trans (e kl), h3⟩
theorem SetB.put_ {D : DataW Unit} {KK : Keyed Tryz.prog K} {key : Value} {kl : Lit} (hkey : keyOf Tryz.prog K key = some kl) (ho : w.ownsMap Tryz.prog K (plainElem Tryz.prog 4) B n D) (h1 : ∀ kl, Go.Maps.has D kl = true ↔ Q kl) (h2 : ∀ kl z, Go.Maps.has D kl = true → D.atKey kl z = .lit (.bool true)) :
    (∀ x, Go.Maps.has (D.put kl (.lit (.bool true))) x = true ↔ (x = kl ∨ Q x)) ∧ ∀ x z, Go.Maps.has (D.put kl (.lit (.bool true))) x = true → (D.put kl (.lit (.bool true))).atKey x z = .lit (.bool true) := by
  have hm := ho.isMap
  have hk := KK.key hkey
  refine ⟨fun x => ?_, fun x z h => ?_⟩
  · by_cases e : x = kl
    · subst e; simp [has_put_same hm hk]
    · rw [has_put_other e]; simp [e, h1 x]
  · by_cases e : x = kl
    · subst e; rw [atKey_put_same hm hk]
    · rw [has_put_other e] at h; rw [atKey_put_other e, h2 x z h]
theorem SetB.del_ {D : DataW Unit} {kl : Lit} (h1 : ∀ kl, Go.Maps.has D kl = true ↔ Q kl) (h2 : ∀ kl z, Go.Maps.has D kl = true → D.atKey kl z = .lit (.bool true)) :
    (∀ x, Go.Maps.has (D.del kl) x = true ↔ (Q x ∧ x ≠ kl)) ∧ ∀ x z, Go.Maps.has (D.del kl) x = true → (D.del kl).atKey x z = .lit (.bool true) := by
  refine ⟨fun x => ?_, fun x z h => ?_⟩
  · by_cases e : x = kl
    · subst e; simp [has_del_same]
    · rw [has_del_other e]; simp [e, h1 x]
  · by_cases e : x = kl
    · subst e; rw [has_del_same] at h; cases h
    · rw [has_del_other e] at h; rw [atKey_del_other e, h2 x z h]
/-- 'm[k]' of a set. -/
theorem SetB.look (h : SetB w K B n Q) (KK : Keyed Tryz.prog K) {t : TypeId} (ht : Tryz.prog.underlying t = some (.map K 4)) {key : Value} {kl : Lit} (hkey : keyOf Tryz.prog K key = some kl) {b : Bool} (hb : b = true ↔ Q kl) :
    (Instr.lookup t (.map (some B)) key false).run Tryz.prog w = .ok (.bool b) w := by
  obtain ⟨D, h, h1, h2⟩ := h
  have hz : (zeroValue 4).run Tryz.prog w = .ok (.bool false) w := by first | exact Tryz.zeroValue4 w | simp [go_sem]
  have hm := h.isMap
  obtain ⟨v, ps, hrun, hv⟩ := h.lookup KK ht hz (plainElem_bool Tryz.underlying4 false) hkey
  have hb' : D.atKey kl (.lit (.bool false)) = .lit (.bool b) := by
    cases b with
    | true => exact h2 kl _ ((h1 kl).2 (hb.1 rfl))
    | false =>
      have hn : Go.Maps.has D kl = false := by
        cases hh : Go.Maps.has D kl with
        | false => rfl
        | true => exact absurd (hb.2 ((h1 kl).1 hh)) (by simp)
      exact Go.Maps.atKey_of_not_has hn _
  rw [hb'] at hv
  have hvb : v = .bool b := plainElem_bool_inv Tryz.underlying4 hv
  subst hvb
  exact hrun
end
/-- 'm[k] = true' of a set, at the operation. -/
theorem wpList_setPut {ops : Array Oper} {rest : List Oper} {o : Oper} {a : Act} {Z : Exit → Act → World → Prop} (w : World) (hg : o.guard = none) (m x v : Operand) (t : TypeId) (hop : o.op = Op.mapUpdate t m x v)
    (K : TypeId) (KK : Keyed Tryz.prog K) (ht : Tryz.prog.underlying t = some (.map K 4)) (B n : Nat) (Q : Lit → Prop) (hm : a.eval m = .map (some B)) (h : SetB w K B n Q) (hn : n < maxLen) (key : Value) (kl : Lit) (hx : a.eval x = key) (hv : a.eval v = .bool true) (hkey : keyOf Tryz.prog K key = some kl)
    (hK : ∀ w', SetB w' K B (n + 1) (fun z => z = kl ∨ Q z) → w.grownBy w' (some B) → wpList Tryz.prog ops Z rest (a.put o.dst undef) w') : wpList Tryz.prog ops Z (o :: rest) a w := by
  obtain ⟨D, ho, h1, h2⟩ := h
  exact wpList_mapUpdate_own w hg m x v t hop K _ KK ht _ B n D hm ho hn key _ kl hx hv hkey _ [] (plainElem_bool Tryz.underlying4 true) fun w' ho' hg' =>
    hK w' ⟨_, ho', SetB.put_ (KK := KK) hkey ho h1 h2⟩ hg'
/-- 'delete(m, k)' of a set, at the operation. -/
theorem wpList_setDel {ops : Array Oper} {rest : List Oper} {o : Oper} {a : Act} {Z : Exit → Act → World → Prop} (w : World) (hg : o.guard = none) (m x : Operand) (t K : TypeId) (hop : o.op = Op.call { callee := Callee.builtin Builtin.delete, args := #[m, x], argTypes := #[t, K] })
    (KK : Keyed Tryz.prog K) (ht : Tryz.prog.underlying t = some (.map K 4)) (B n : Nat) (Q : Lit → Prop) (hm : a.eval m = .map (some B)) (h : SetB w K B n Q) (key : Value) (kl : Lit) (hx : a.eval x = key) (hkey : keyOf Tryz.prog K key = some kl)
    (hK : ∀ w', SetB w' K B n (fun z => Q z ∧ z ≠ kl) → w.grownBy w' (some B) → wpList Tryz.prog ops Z rest (a.put o.dst (.tuple #[])) w') : wpList Tryz.prog ops Z (o :: rest) a w := by
  obtain ⟨D, ho, h1, h2⟩ := h
  exact wpList_delete_own w hg m x t K hop _ KK ht _ B n D hm ho key kl hx hkey fun w' ho' hg' =>
    hK w' ⟨_, ho', SetB.del_ h1 h2⟩ hg'.grown
/-- 'range m' of a set, at the operation. -/
theorem wpList_setRange {ops : Array Oper} {rest : List Oper} {o : Oper} {a : Act} {Z : Exit → Act → World → Prop} (w : World) (hg : o.guard = none) (m : Operand) (t : TypeId) (hop : o.op = Op.range t m) (K : TypeId)
    (KK : Keyed Tryz.prog K) (ht : Tryz.prog.underlying t = some (.map K 4)) (B n : Nat) (Q : Lit → Prop) (hm : a.eval m = .map (some B)) (h : SetB w K B n Q)
    (hK : ∀ w' (D : DataW Unit) (left : Lit → Bool) (cnt : Nat), w'.ranges Tryz.prog K (plainElem Tryz.prog 4) B w.heap.size n D left cnt → (∀ kl, left kl = true ↔ Q kl) → cnt ≤ n → w.grownBy w' none → w'.heap.size = w.heap.size + 1 → wpList Tryz.prog ops Z rest (a.put o.dst (.pointer (some ⟨w.heap.size, 0, none⟩))) w') : wpList Tryz.prog ops Z (o :: rest) a w := by
  obtain ⟨D, ho, h1, h2⟩ := h
  exact wpList_range_own w hg m t hop K _ KK ht _ B n D hm ho fun w' h3 h4 h5 => hK w' D _ _ h3 h1 ho.size_le h4 h5
/-- 'm[k] = true' of a set, at the operation. -/
theorem wpListIn_setPut {F : Fence} {nF : Nat} {ops : Array Oper} {rest : List Oper} {o : Oper} {a : Act} {Z : Exit → Act → World → Prop} (w : World) (hg : o.guard = none) (m x v : Operand) (t : TypeId) (hop : o.op = Op.mapUpdate t m x v)
    (K : TypeId) (KK : Keyed Tryz.prog K) (ht : Tryz.prog.underlying t = some (.map K 4)) (B n : Nat) (Q : Lit → Prop) (hm : a.eval m = .map (some B)) (h : SetB w K B n Q) (hn : n < maxLen) (key : Value) (kl : Lit) (hx : a.eval x = key) (hv : a.eval v = .bool true) (hkey : keyOf Tryz.prog K key = some kl)
    (hK : ∀ w', SetB w' K B (n + 1) (fun z => z = kl ∨ Q z) → w.grownBy w' (some B) → wpListIn F nF Tryz.prog ops Z rest (a.put o.dst undef) w') : wpListIn F nF Tryz.prog ops Z (o :: rest) a w := by
  obtain ⟨D, ho, h1, h2⟩ := h
  exact wpListIn_mapUpdate_own w hg m x v t hop K _ KK ht _ B n D hm ho hn key _ kl hx hv hkey _ [] (plainElem_bool Tryz.underlying4 true) fun w' ho' hg' =>
    hK w' ⟨_, ho', SetB.put_ (KK := KK) hkey ho h1 h2⟩ hg'
/-- 'delete(m, k)' of a set, at the operation. -/
theorem wpListIn_setDel {F : Fence} {nF : Nat} {ops : Array Oper} {rest : List Oper} {o : Oper} {a : Act} {Z : Exit → Act → World → Prop} (w : World) (hg : o.guard = none) (m x : Operand) (t K : TypeId) (hop : o.op = Op.call { callee := Callee.builtin Builtin.delete, args := #[m, x], argTypes := #[t, K] })
    (KK : Keyed Tryz.prog K) (ht : Tryz.prog.underlying t = some (.map K 4)) (B n : Nat) (Q : Lit → Prop) (hm : a.eval m = .map (some B)) (h : SetB w K B n Q) (key : Value) (kl : Lit) (hx : a.eval x = key) (hkey : keyOf Tryz.prog K key = some kl)
    (hK : ∀ w', SetB w' K B n (fun z => Q z ∧ z ≠ kl) → w.grownBy w' (some B) → wpListIn F nF Tryz.prog ops Z rest (a.put o.dst (.tuple #[])) w') : wpListIn F nF Tryz.prog ops Z (o :: rest) a w := by
  obtain ⟨D, ho, h1, h2⟩ := h
  exact wpListIn_delete_own w hg m x t K hop _ KK ht _ B n D hm ho key kl hx hkey fun w' ho' hg' =>
    hK w' ⟨_, ho', SetB.del_ h1 h2⟩ hg'.grown
/-- 'range m' of a set, at the operation. -/
theorem wpListIn_setRange {F : Fence} {nF : Nat} {ops : Array Oper} {rest : List Oper} {o : Oper} {a : Act} {Z : Exit → Act → World → Prop} (w : World) (hg : o.guard = none) (m : Operand) (t : TypeId) (hop : o.op = Op.range t m) (K : TypeId)
    (KK : Keyed Tryz.prog K) (ht : Tryz.prog.underlying t = some (.map K 4)) (B n : Nat) (Q : Lit → Prop) (hm : a.eval m = .map (some B)) (h : SetB w K B n Q)
    (hK : ∀ w' (D : DataW Unit) (left : Lit → Bool) (cnt : Nat), w'.ranges Tryz.prog K (plainElem Tryz.prog 4) B w.heap.size n D left cnt → (∀ kl, left kl = true ↔ Q kl) → cnt ≤ n → w.grownBy w' none → w'.heap.size = w.heap.size + 1 → wpListIn F nF Tryz.prog ops Z rest (a.put o.dst (.pointer (some ⟨w.heap.size, 0, none⟩))) w') : wpListIn F nF Tryz.prog ops Z (o :: rest) a w := by
  obtain ⟨D, ho, h1, h2⟩ := h
  exact wpListIn_range_own w hg m t hop K _ KK ht _ B n D hm ho fun w' h3 h4 h5 => hK w' D _ _ h3 h1 ho.size_le h4 h5

/-- Keys that are ints. -/
theorem wf_i64 {a : Int} (h0 : -1000000 ≤ a) (h1 : a ≤ 1000000) : (Lit.int .i64 a).wf = true := by
  exact WalkArith.wf_i64 (by omega)
end Go.Proofs.YtmbpjafiinfkkaaGreatDoor
