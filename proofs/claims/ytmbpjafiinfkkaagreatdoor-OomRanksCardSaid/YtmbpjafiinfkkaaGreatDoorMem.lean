/- Words of memory that all texts of this seat share: a slice that reads as a list ('Sl'), a map of integers that reads as a function ('IM'), what is kept behind a call ('Below'). No statement is proved here. -/
import Derived.Test.YtmbpjafiinfkkaaGreatDoorRows
import Derived.WalkKit
import Derived.WalkSpells
import Derived.WalkLawsBesides
import Derived.Deep.LoopGhost
import Derived.Deep.QuietTactic
import Derived.BigQuiet
import Derived.RegionTactic
import Derived.Lib.Hide
import Derived.Maps.Own
import Derived.Maps.OwnOps
import Derived.Maps.OwnSet
import Derived.Maps.Views
import Derived.Deep.DeepMust
namespace Go.Proofs.YtmbpjafiinfkkaaGreatDoor
set_option linter.unusedSimpArgs false
set_option linter.unusedVariables false
open Go.RowKit Go.Maps

theorem ret_int {k : IntKind} {a b : Int} (h : a = b) : Ending.returned (.int k a) = .returned (.int k b) := by rw [h]
theorem ret_bool {a b : Bool} (h : a = b) : Ending.returned (.bool a) = .returned (.bool b) := by rw [h]

theorem below_drewN {B : Nat} {a w : World} (h : Below B a w) (n : Nat) : Below B a (w.drewN n) := ⟨h.os, h.tape, h.output, h.size, h.block⟩
theorem le_size_alloc {n : Nat} {w : World} {o : Obj} (h : n ≤ w.heap.size) : n ≤ (w.alloc o).heap.size := by simp; omega
theorem lt_size_alloc {n : Nat} {w : World} {o : Obj} (h : n < w.heap.size) : n < (w.alloc o).heap.size := by simp; omega
theorem le_size_drewN {n k : Nat} {w : World} (h : n ≤ w.heap.size) : n ≤ (w.drewN k).heap.size := h
theorem le_size_drew {n : Nat} {w : World} (h : n ≤ w.heap.size) : n ≤ w.drew.heap.size := h
theorem le_size_setCell {n : Nat} {w : World} {p : Addr} {v : Value} (h : n ≤ w.heap.size) : n ≤ (w.setCell p v).heap.size := by simpa [World.setCell] using h
theorem cell_keep {B : Nat} {a w : World} {p : Addr} {v : Value} (hb : Below B a w) (h : a.cell? p = some v) (hp : p.block < B) : w.cell? p = some v := (hb.cell hp).trans h
theorem frozen_keep {B : Nat} {a w : World} {p : Addr} {b : Bool} (hb : Below B a w) (h : a.frozen? p = b) (hp : p.block < B) : w.frozen? p = b := (hb.frozen hp).trans h
theorem quiet_l {P : Program} {f : FuncId} {args : Array Value} {w : World} {n : Nat} {v : Value}
    (h : Calls P f args (w.drewN n) fun e w' => e = .returned v ∧ w.drewN n = w') : Calls P f args (w.drewN n) fun e w'' => e = .returned v ∧ ∃ m, w'' = w.drewN m :=
  h.mono fun _ _ ⟨he, hm⟩ => ⟨he, n, hm.symm⟩

theorem quiet_l2 {P : Program} {f : FuncId} {args : Array Value} {w : World} {a n : Nat} {v : Value}
    (h : Calls P f args (w.drewN (a + n)) fun e w' => e = .returned v ∧ w.drewN (a + n) = w') : Calls P f args (w.drewN (a + n)) fun e w'' => e = .returned v ∧ ∃ m, w'' = w.drewN (a + m) :=
  h.mono fun _ _ ⟨he, hm⟩ => ⟨he, n, hm.symm⟩

/-- The slice value '.slice A xs.length c' holds the elements xs (each one cell, 'mk x'). -/
def Sl {α : Type} (w : World) (mk : α → Value) (A : Option Addr) (xs : List α) : Prop :=
  0 < xs.length → ∃ b off, A = some ⟨b, off, none⟩ ∧ b < w.heap.size ∧ ∀ j x, xs[j]? = some x → w.cell? ⟨b, off + j, none⟩ = some (mk x)

section
variable {α : Type} {w w' : World} {mk : α → Value} {A : Option Addr} {xs : List α}
theorem Sl.nil : Sl w mk A ([] : List α) := fun h => absurd h (by simp)
theorem Sl.at_ {k : Nat} (h : Sl w mk A xs) (hk : k < xs.length) :
    ∃ b off x, A = some ⟨b, off, none⟩ ∧ b < w.heap.size ∧ xs[k]? = some x ∧ w.cell? ⟨b, off + k, none⟩ = some (mk x) := by
  obtain ⟨b, off, e, hb, hc⟩ := h (by omega)
  exact ⟨b, off, xs[k], e, hb, List.getElem?_eq_getElem hk, hc k _ (List.getElem?_eq_getElem hk)⟩
theorem Sl.below {B : Nat} (h : Sl w mk A xs) (hb : Below B w w') (hB : w.heap.size ≤ B) : Sl w' mk A xs := fun hn => by
  obtain ⟨b, off, e, hlt, hc⟩ := h hn
  exact ⟨b, off, e, Nat.lt_of_lt_of_le hlt hb.size, fun j x hx => (hb.cell (p := ⟨b, off + j, none⟩) (show b < B by omega)).trans (hc j x hx)⟩
theorem Sl.ext (h : Sl w mk A xs) (hb : Below w.heap.size w w') : Sl w' mk A xs := h.below hb (Nat.le_refl _)
end

/-- Block b is just the cells cs (of element type t), none of them frozen. -/
def Blk (w : World) (b : Nat) (t : TypeId) (cs : Array Value) : Prop := w.heap[b]? = some (.cells cs t (0, 0))
section
variable {w w' : World} {b : Nat} {t : TypeId} {cs : Array Value}
theorem Blk.lt (h : Blk w b t cs) : b < w.heap.size := by
  rcases Nat.lt_or_ge b w.heap.size with hlt | hge
  · exact hlt
  · unfold Blk at h; rw [Array.getElem?_eq_none hge] at h; cases h
theorem Blk.new_ {cs' : Array Value} (hb : b = w.heap.size) (hc : cs' = cs) : Blk (w.alloc (.cells cs' t)) b t cs := by
  subst hb hc
  show (w.heap.push _)[w.heap.size]? = _
  simp
theorem Blk.alloc_ (h : Blk w b t cs) (o : Obj) : Blk (w.alloc o) b t cs := (Below.heap_alloc w o b h.lt).trans h
theorem Blk.drew_ (h : Blk w b t cs) : Blk w.drew b t cs := h
theorem Blk.drewN_ (h : Blk w b t cs) (n : Nat) : Blk (w.drewN n) b t cs := h
theorem Blk.far_ (h : Blk w b t cs) {p : Addr} (hp : b ≠ p.block) (u : Value) : Blk (w.setCell p u) b t cs := (Below.heap_setCell w p u b hp).trans h
theorem Blk.set_ (h : Blk w b t cs) (i : Nat) (u : Value) : Blk (w.setCell ⟨b, i, none⟩ u) b t (cs.setIfInBounds i u) := by
  unfold Blk at h ⊢
  simp [World.setCell, Array.getElem?_modify, h]
theorem Blk.below_ {B : Nat} (h : Blk w b t cs) (hb : Below B w w') (hB : b < B) : Blk w' b t cs := (hb.block b hB).trans h
theorem Blk.cell_ (h : Blk w b t cs) (i : Nat) : w.cell? ⟨b, i, none⟩ = cs[i]? := by
  unfold Blk at h
  simp [World.cell?, h]
theorem Blk.frozen_ (h : Blk w b t cs) (i : Nat) : w.frozen? ⟨b, i, none⟩ = false := by
  unfold Blk at h
  simp [World.frozen?, h]
end
theorem Sl.of_blk {α : Type} {w : World} {mk : α → Value} {b : Nat} {t : TypeId} {cs : Array Value} {xs : List α} (h : Blk w b t cs) (hc : ∀ (j : Nat) x, xs[j]? = some x → cs[j]? = some (mk x)) :
    Sl w mk (some ⟨b, 0, none⟩) xs := fun _ => ⟨b, 0, rfl, h.lt, fun j x hx => by rw [h.cell_, Nat.zero_add]; exact hc j x hx⟩
theorem Sl.of_lit {α : Type} {w : World} {mk : α → Value} {b : Nat} {t : TypeId} {xs : List α} (h : Blk w b t (xs.map mk).toArray) : Sl w mk (some ⟨b, 0, none⟩) xs :=
  Sl.of_blk h fun j x hx => by simp [hx]

/-- Block B is a map of at most n integers that reads as the function f (0 where there is no key). -/
def IM (P : Program) (K E : TypeId) (w : World) (B n : Nat) (f : Int → Int) : Prop :=
  ∃ D : DataW Unit, w.ownsMap P K (plainElem P E) B n D ∧ IsMap D ∧ ∀ x, D.atKey (.int .i64 x) (.lit (.int .i64 0)) = .lit (.int .i64 (f x))

theorem IM.made (P : Program) (K E : TypeId) (w : World) : IM P K E (w.alloc (.map #[] 0)) w.heap.size 0 (fun _ => 0) :=
  ⟨.map [], World.ownsMap_made _ _ _ _, ⟨_, rfl⟩, fun _ => rfl⟩
theorem IM.made' (P : Program) (K E : TypeId) {w : World} {B n : Nat} {f : Int → Int} (hB : B = w.heap.size) (hf : ∀ x, f x = 0) : IM P K E (w.alloc (.map #[] 0)) B n f := by
  obtain rfl : f = fun _ => 0 := funext hf
  subst hB
  obtain ⟨D, h, r⟩ := IM.made P K E w
  exact ⟨D, h.mono (Nat.zero_le _), r⟩

section
variable {P : Program} {K E T : TypeId} {w w' : World} {B n : Nat} {f : Int → Int}
theorem IM.below {C : Nat} (h : IM P K E w B n f) (hb : Below C w w') (hB : B < C) : IM P K E w' B n f := by
  obtain ⟨D, ⟨es, clock, h1, h2⟩, hm, hf⟩ := h
  exact ⟨D, ⟨es, clock, (hb.block B hB).trans h1, h2⟩, hm, hf⟩
theorem IM.lt (h : IM P K E w B n f) : B < w.heap.size := by
  obtain ⟨D, h, _⟩ := h
  exact h.lt
theorem IM.ext (h : IM P K E w B n f) (hb : Below w.heap.size w w') : IM P K E w' B n f := h.below hb h.lt
theorem IM.mono {n' : Nat} (h : IM P K E w B n f) (hn : n ≤ n') : IM P K E w B n' f := by
  obtain ⟨D, h, r⟩ := h
  exact ⟨D, h.mono hn, r⟩

/-- 'm[x]' as an equation for the walk. -/
theorem IM.look (h : IM P K E w B n f) (hK : P.underlying K = some (.int .i64)) (hE : P.underlying E = some (.int .i64)) (hT : P.underlying T = some (.map K E))
    (hz : (zeroValue E).run P w = .ok (.int .i64 0) w) (x : Int) (hx : (Lit.int .i64 x).wf = true) :
    (Instr.lookup T (.map (some B)) (.int .i64 x) false).run P w = .ok (.int .i64 (f x)) w := by
  obtain ⟨D, hown, _, hf⟩ := h
  obtain ⟨c, hrun, hat, _⟩ := hown.lookup_int (int_keyed hK) hT hE hz (keyOf_int_mk hK hx)
  rw [hf x] at hat
  injection hat with hat
  injection hat with _ hat
  rw [hrun, hat]

theorem wpList_look {ops : Array Oper} {rest : List Oper} {o : Oper} {a : Act} {Q : Exit → Act → World → Prop}
    (hg : o.guard = none) (m x : Operand) (hop : o.op = Op.lookup T m x false) (h : IM P K E w B n f)
    (hK : P.underlying K = some (.int .i64)) (hE : P.underlying E = some (.int .i64)) (hT : P.underlying T = some (.map K E))
    (hz : (zeroValue E).run P w = .ok (.int .i64 0) w) (y : Int) (hy : (Lit.int .i64 y).wf = true) (hm : a.eval m = .map (some B)) (hx : a.eval x = .int .i64 y)
    (c : Int) (hc : f y = c) (hk : wpList P ops Q rest (a.put o.dst (.int .i64 c)) w) : wpList P ops Q (o :: rest) a w := by
  refine wpList_plain hg fun K' hK' => ?_
  have hrun := h.look hK hE hT hz y hy
  rw [hc] at hrun
  unfold Oper.wp
  simp [execOp, hop, hm, hx, hrun, Result.andThen]
  exact hK' _ _ hk

theorem wpList_upd {ops : Array Oper} {rest : List Oper} {o : Oper} {a : Act} {Q : Exit → Act → World → Prop}
    (hg : o.guard = none) (m x v : Operand) (hop : o.op = Op.mapUpdate T m x v) (h : IM P K E w B n f)
    (hK : P.underlying K = some (.int .i64)) (hE : P.underlying E = some (.int .i64)) (hT : P.underlying T = some (.map K E)) (hn : n < maxLen)
    (y z : Int) (hy : (Lit.int .i64 y).wf = true) (hwz : (Lit.int .i64 z).wf = true) (hm : a.eval m = .map (some B)) (hx : a.eval x = .int .i64 y) (hv : a.eval v = .int .i64 z)
    (g : Int → Int) (hgf : ∀ i, g i = if i = y then z else f i) (hk : ∀ w', IM P K E w' B (n + 1) g → w.grownBy w' (some B) → wpList P ops Q rest (a.put o.dst undef) w') :
    wpList P ops Q (o :: rest) a w := by
  obtain ⟨D, hown, hD, hf⟩ := h
  refine wpList_mapUpdate_own w hg m x v T hop K E (int_keyed hK) hT _ B n D hm hown hn _ _ _ hx hv (keyOf_int_mk hK hy) _ [] (plainElem_int hE hwz) ?_
  intro w' hown' hgr
  refine hk w' ⟨_, hown', (hown'.tidy (int_keyed hK)).isMap, fun i => ?_⟩ hgr
  rw [hgf]
  by_cases h : i = y
  · subst h
    rw [if_pos rfl, atKey_put_same hD (by simp [WideAt.IsKeyLit])]
  · rw [if_neg h, atKey_put_other (by intro e; injection e; contradiction), hf]
end
end Go.Proofs.YtmbpjafiinfkkaaGreatDoor
