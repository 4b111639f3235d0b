/- Contracts of Go's package slices at the instances that the program uses: Clone, Delete, Insert at the beginning, Index. -/
import Derived.Test.YtmbpjafiinfkkaaGreatDoorMem
import Derived.Laws.OwnMore
import Derived.Lib.Overlaps
import Derived.Lib.AppendZeros
import Derived.Lib.SliceRun
import Derived.Lib.JoinLaws
import Derived.Laws.Externs
import Derived.Laws.IdiomCopy
import Derived.Deep.RegionLaw
namespace Go.Proofs.YtmbpjafiinfkkaaGreatDoor
set_option linter.unusedSimpArgs false
set_option linter.unusedVariables false
open Go.RowKit Go.Maps

theorem intInfo : (Tryz.prog.info? 3).map (fun i => (i.zero, i.size, i.bytes)) = some (some (.int .i64 0), 1, 8) := by kernel_rfl
theorem boolInfo : (Tryz.prog.info? 4).map (fun i => (i.zero, i.size, i.bytes)) = some (some (.bool false), 1, 1) := by kernel_rfl

/-- The slice value v owns the elements xs: a row of its own, in a block from base on. -/
def Own {α : Type} (w : World) (base : Nat) (E : TypeId) (mk : α → Value) (v : Value) (xs : List α) : Prop := w.ownsRow base E 1 v xs.length (xs.map mk)

theorem int_one (xs : List Int) : ∀ u ∈ xs.map (Value.int .i64), u.oneCell' = true := by
  intro u hu; obtain ⟨x, _, rfl⟩ := List.mem_map.1 hu; rfl
theorem bool_one (xs : List Bool) : ∀ u ∈ xs.map Value.bool, u.oneCell' = true := by
  intro u hu; obtain ⟨x, _, rfl⟩ := List.mem_map.1 hu; rfl

theorem Sl.cells {α : Type} {w : World} {mk : α → Value} {b off : Nat} {sp} {xs : List α} (h : Sl w mk (some ⟨b, off, sp⟩) xs) :
    ∀ j u, (xs.map mk)[j]? = some u → w.cell? ((⟨b, off, sp⟩ : Addr).add j) = some u := by
  intro j u hu
  rw [List.getElem?_map] at hu
  cases hx : xs[j]? with
  | none => rw [hx] at hu; cases hu
  | some x =>
    rw [hx] at hu
    obtain ⟨b', off', e, _, hc⟩ := h (by have := (List.getElem?_eq_some_iff.1 hx).1; omega)
    injection e with e
    injection e with e1 e2 e3
    subst e1 e2 e3
    rw [Addr.add_lit, hc j x hx]
    simpa using hu

/-- Cells written one after the other into an array. -/
def setMany (cur : Array Value) : Nat → List Value → Array Value
  | _, [] => cur
  | o, v :: r => setMany (cur.setIfInBounds o v) (o + 1) r
theorem setMany_size : ∀ (vs : List Value) (cur : Array Value) (o : Nat), (setMany cur o vs).size = cur.size
  | [], _, _ => rfl
  | v :: r, cur, o => by rw [setMany, setMany_size r]; simp
theorem setMany_at : ∀ (vs : List Value) (cur : Array Value) (o j : Nat), j < cur.size → (setMany cur o vs)[j]? = if o ≤ j ∧ j < o + vs.length then vs[j - o]? else cur[j]?
  | [], cur, o, j, _ => by simp [setMany]; intro h1 h2; omega
  | v :: r, cur, o, j, hj => by
    rw [setMany, setMany_at r _ _ _ (by simpa using hj)]
    by_cases h1 : o + 1 ≤ j ∧ j < o + 1 + r.length
    · rw [if_pos h1, if_pos (by simp; omega), show j - o = (j - (o + 1)) + 1 by omega, List.getElem?_cons_succ]
    · rw [if_neg h1]
      by_cases h2 : j = o
      · subst h2
        rw [if_pos (by simp)]
        simp [hj]
      · rw [if_neg (by simp; omega), Array.getElem?_setIfInBounds_ne (by omega)]
theorem Blk.setCells_ {b : Nat} {t : TypeId} : ∀ (vs : List Value) (o : Nat) {w : World} {cs : Array Value}, Blk w b t cs → Blk (w.setCells b o vs) b t (setMany cs o vs)
  | [], _, _, _, h => h
  | _ :: r, o, _, _, h => Blk.setCells_ r (o + 1) (h.set_ o _)
theorem grown_setCell (w : World) (g o : Nat) (v : Value) : w.grownBy (w.setCell ⟨g, o, none⟩ v) (some g) :=
  ⟨rfl, rfl, rfl, by simp [World.setCell], fun k _ hne => Below.heap_setCell w ⟨g, o, none⟩ v k (fun e => hne (by rw [e]))⟩
theorem grown_trans' {a b c : World} {row : Option Nat} (h : a.grownBy b row) (k : b.grownBy c row) : a.grownBy c row :=
  ⟨k.os.trans h.os, k.tape.trans h.tape, k.output.trans h.output, Nat.le_trans h.size k.size, fun i hi hne => (k.block i (Nat.lt_of_lt_of_le hi h.size) hne).trans (h.block i hi hne)⟩
theorem grown_drew {a b : World} {row : Option Nat} (h : a.grownBy b row) : a.grownBy b.drew row := ⟨h.os, h.tape, h.output, h.size, h.block⟩
theorem grown_refl (a : World) (row : Option Nat) : a.grownBy a row := ⟨rfl, rfl, rfl, Nat.le_refl _, fun _ _ _ => rfl⟩
theorem grown_alloc {a b : World} {row : Option Nat} (h : a.grownBy b row) (o : Obj) : a.grownBy (b.alloc o) row :=
  ⟨h.os, h.tape, h.output, Nat.le_trans h.size (by simp), fun i hi hne => (Below.heap_alloc b o i (Nat.lt_of_lt_of_le hi h.size)).trans (h.block i hi hne)⟩
theorem grown_setCells {a : World} {row : Option Nat} (g : Nat) : ∀ (vs : List Value) (o : Nat) {w : World}, a.grownBy w row → (row = some g ∨ a.heap.size ≤ g) → a.grownBy (w.setCells g o vs) row
  | [], _, _, h, _ => h
  | v :: r, o, w, h, hr => grown_setCells g r (o + 1) (w := w.setCell ⟨g, o, none⟩ v) ⟨h.os, h.tape, h.output, by simpa [World.setCell] using h.size, fun i hi hne => (Below.heap_setCell w ⟨g, o, none⟩ v i (by
      rintro rfl
      rcases hr with hr | hr
      · exact hne hr.symm
      · exact absurd hi (by simp only [Nat.not_lt]; exact hr))).trans (h.block i hi hne)⟩ hr

theorem Own.of_blk {α : Type} {w : World} {base g : Nat} {E : TypeId} {mk : α → Value} {cur : Array Value} {xs : List α} (h : Blk w g E cur) (hb : base ≤ g) (hs : xs.length ≤ cur.size) (hm : cur.size ≤ maxLen)
    (hc : ∀ (j : Nat) x, xs[j]? = some x → cur[j]? = some (mk x)) : Own w base E mk (.slice (some ⟨g, 0, none⟩) xs.length cur.size) xs := by
  refine ⟨by simp, .inr ⟨g, cur.size, cur, rfl, hb, h, hs, hm, by simp, ?_⟩⟩
  apply List.ext_getElem?
  intro j
  rw [List.getElem?_map, List.getElem?_take]
  by_cases hj : j < xs.length
  · rw [if_pos (by simpa using hj), List.getElem?_eq_getElem hj, Option.map_some, Array.getElem?_toList, hc j _ (List.getElem?_eq_getElem hj)]
  · rw [if_neg (by simpa using hj), List.getElem?_eq_none (by omega), Option.map_none]
theorem Own.form {α : Type} {w : World} {base : Nat} {E : TypeId} {mk : α → Value} {v : Value} {xs : List α} (h : Own w base E mk v xs) :
    (v = .slice none 0 0 ∧ xs = []) ∨ ∃ g cur, v = .slice (some ⟨g, 0, none⟩) xs.length cur.size ∧ base ≤ g ∧ Blk w g E cur ∧ xs.length ≤ cur.size ∧ cur.size ≤ maxLen ∧ (∀ (j : Nat) x, xs[j]? = some x → cur[j]? = some (mk x)) := by
  obtain ⟨_, h | ⟨g, cap, cur, rfl, hb, hh, h1, h2, h3, h4⟩⟩ := h
  · exact .inl ⟨h.1, List.eq_nil_of_length_eq_zero h.2⟩
  · obtain rfl : cap = cur.size := by omega
    refine .inr ⟨g, cur, rfl, hb, hh, h1, h2, fun j x hx => ?_⟩
    have hj := (List.getElem?_eq_some_iff.1 hx).1
    have := congrArg (fun l => l[j]?) h4
    simp only [List.getElem?_take, List.getElem?_map, hx, Option.map_some] at this
    rw [if_pos (by omega)] at this
    simpa using this
theorem Own.kept_ {α : Type} {w w' : World} {base : Nat} {E : TypeId} {mk : α → Value} {v : Value} {xs : List α} {row : Option Nat} (h : Own w base E mk v xs) (hg : w.grownBy w' row) (hne : v.ownBlock = none ∨ v.ownBlock ≠ row) : Own w' base E mk v xs :=
  World.ownsRow.kept h hg hne
theorem Own.below {α : Type} {w w' : World} {base : Nat} {E : TypeId} {mk : α → Value} {v : Value} {xs : List α} (h : Own w base E mk v xs) (hb : Below w.heap.size w w') : Own w' base E mk v xs :=
  h.kept_ (row := none) ⟨hb.os, hb.tape, hb.output, hb.size, fun k hk _ => hb.block k hk⟩ (by cases hv : v.ownBlock <;> simp)
theorem Own.sl {α : Type} {w : World} {base : Nat} {E : TypeId} {mk : α → Value} {v : Value} {xs : List α} (h : Own w base E mk v xs) : ∃ A c, v = .slice A xs.length c ∧ Sl w mk A xs := by
  rcases h.form with ⟨rfl, rfl⟩ | ⟨g, cur, rfl, _, hh, _, _, hc⟩
  · exact ⟨none, 0, rfl, Sl.nil⟩
  · exact ⟨_, _, rfl, Sl.of_blk hh hc⟩

end Go.Proofs.YtmbpjafiinfkkaaGreatDoor
