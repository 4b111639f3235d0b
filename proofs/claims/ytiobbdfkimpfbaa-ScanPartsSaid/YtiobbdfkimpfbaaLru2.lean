/- Contracts of the package lru that make new lists: copied, pop, Demote, Promote. -/
import Derived.Test.YtiobbdfkimpfbaaLru
import Derived.Test.YtiobbdfkimpfbaaDel
import Derived.Deep.RegionHeld3
namespace Go.Proofs.Ytiobbdfkimpfbaa
set_option linter.unusedSimpArgs false
set_option linter.unusedVariables false
open Go.RowKit Go.Maps

theorem ownBlock_slice (A : Option Addr) (n c : Nat) : (Value.slice A n c).ownBlock = A.map (·.block) := by cases A <;> rfl

/-- Three rows of the call's own: two lists of frames and the bits. -/
structure OwnL (w : World) (base : Nat) (A1 : Option Addr) (c1 : Nat) (A2 : Option Addr) (c2 : Nat) (A3 : Option Addr) (c3 : Nat) (xs ys : List Int) (rs : List Bool) : Prop where
  a : Own w base 3 (.int .i64) (.slice A1 xs.length c1) xs
  i : Own w base 3 (.int .i64) (.slice A2 ys.length c2) ys
  r : Own w base 4 Value.bool (.slice A3 rs.length c3) rs
  ai : ∀ g, A1.map (·.block) = some g → A2.map (·.block) ≠ some g
  ar : ∀ g, A1.map (·.block) = some g → A3.map (·.block) ≠ some g
  ir : ∀ g, A2.map (·.block) = some g → A3.map (·.block) ≠ some g
theorem OwnL.below {w w' : World} {base : Nat} {A1 A2 A3 : Option Addr} {c1 c2 c3 : Nat} {xs ys : List Int} {rs : List Bool} (h : OwnL w base A1 c1 A2 c2 A3 c3 xs ys rs) (hb : Below w.heap.size w w') : OwnL w' base A1 c1 A2 c2 A3 c3 xs ys rs :=
  ⟨h.a.below hb, h.i.below hb, h.r.below hb, h.ai, h.ar, h.ir⟩
theorem Own.block {α : Type} {w : World} {base : Nat} {E : TypeId} {mk : α → Value} {A : Option Addr} {n c : Nat} {xs : List α} (h : Own w base E mk (.slice A n c) xs) : ∀ g, A.map (·.block) = some g → base ≤ g ∧ g < w.heap.size := by
  intro g hg
  rcases h.form with ⟨e, _⟩ | ⟨g', cur, e, hb, hh, _⟩
  · injection e with e; subst e; cases hg
  · injection e with e; subst e
    simp at hg; subst hg
    exact ⟨hb, hh.lt⟩

theorem Own.base_ {α : Type} {w : World} {base base' : Nat} {E : TypeId} {mk : α → Value} {v : Value} {xs : List α} (h : Own w base E mk v xs) (hb : base' ≤ base) : Own w base' E mk v xs := by
  obtain ⟨h1, h | ⟨g, cap, cur, rfl, hg, r⟩⟩ := h
  · exact ⟨h1, .inl h⟩
  · exact ⟨h1, .inr ⟨g, cap, cur, rfl, Nat.le_trans hb hg, r⟩⟩
theorem Own.far_ {α : Type} {w : World} {base : Nat} {E : TypeId} {mk : α → Value} {A : Option Addr} {n c : Nat} {xs : List α} (h : Own w base E mk (.slice A n c) xs) {g : Nat} (o : Nat) (u : Value) (hg : A.map (·.block) ≠ some g) :
    Own (w.setCell ⟨g, o, none⟩ u) base E mk (.slice A n c) xs := h.kept_ (grown_setCell w g o u) (.inr (by rw [ownBlock_slice]; exact hg))
theorem OwnL.far_ {w : World} {base : Nat} {A1 A2 A3 : Option Addr} {c1 c2 c3 : Nat} {xs ys : List Int} {rs : List Bool} (h : OwnL w base A1 c1 A2 c2 A3 c3 xs ys rs) {g : Nat} (o : Nat) (u : Value) (hg : g < base) :
    OwnL (w.setCell ⟨g, o, none⟩ u) base A1 c1 A2 c2 A3 c3 xs ys rs :=
  ⟨h.a.far_ o u (fun e => by have := (h.a.block g e).1; omega), h.i.far_ o u (fun e => by have := (h.i.block g e).1; omega), h.r.far_ o u (fun e => by have := (h.r.block g e).1; omega), h.ai, h.ar, h.ir⟩
theorem OwnL.base_ {w : World} {base base' : Nat} {A1 A2 A3 : Option Addr} {c1 c2 c3 : Nat} {xs ys : List Int} {rs : List Bool} (h : OwnL w base A1 c1 A2 c2 A3 c3 xs ys rs) (hb : base' ≤ base) : OwnL w base' A1 c1 A2 c2 A3 c3 xs ys rs :=
  ⟨h.a.base_ hb, h.i.base_ hb, h.r.base_ hb, h.ai, h.ar, h.ir⟩

def CopPost (xs ys : List Int) (rs : List Bool) (w : World) (e : Ending) (w' : World) : Prop :=
  ∃ A1 c1 A2 c2 A3 c3, e = .returned (.agg #[.slice A1 xs.length c1, .slice A2 ys.length c2, .slice A3 rs.length c3]) ∧ OwnL w' w.heap.size A1 c1 A2 c2 A3 c3 xs ys rs ∧ Below w.heap.size w w'

set_option maxRecDepth 100000 in
set_option maxHeartbeats 1000000 in
theorem copied_any (Aa Ai Ar : Option Addr) (ca ci cr : Nat) (xs ys : List Int) (rs : List Bool) (w : World) (ha : Sl w (.int .i64) Aa xs) (hi : Sl w (.int .i64) Ai ys) (hr : Sl w .bool Ar rs)
    (la : xs.length ≤ 100000) (li : ys.length ≤ 100000) (lr : rs.length ≤ 100000) :
    Calls Try.prog 70 #[.agg #[.slice Aa xs.length ca, .slice Ai ys.length ci, .slice Ar rs.length cr]] w (CopPost xs ys rs w) := by
  have HA := Lib.hid ha; have HI := Lib.hid hi; have HR := Lib.hid hr
  clear ha hi hr
  go_enter Try.func70, Try.ntmps70
  go_wp2_with fail
  go_region_held3 (fun W => W.cell? ⟨w.heap.size, 0, none⟩ = some (.slice Aa xs.length ca) ∧ W.cell? ⟨w.heap.size, 1, none⟩ = some (.slice Ai ys.length ci) ∧ W.cell? ⟨w.heap.size, 2, none⟩ = some (.slice Ar rs.length cr))
    (refine ⟨?_, ?_, ?_⟩ <;> (refine cell_keep (B := w.heap.size + 1) (a := w.alloc (.cells #[.slice Aa xs.length ca, .slice Ai ys.length ci, .slice Ar rs.length cr] 25)) (by repeat' (first | with_reducible exact Below.refl _ _ | with_reducible assumption | with_reducible apply Below.drew | with_reducible apply below_drewN | with_reducible apply Below.alloc | with_reducible apply Below.setCell | (with_reducible refine Below.trans ?_ (Below.mono (by assumption) ?_)) | (simp; done) | (simp; omega) | omega | with_reducible apply le_size_alloc | with_reducible apply le_size_drewN | with_reducible apply le_size_drew | with_reducible apply le_size_setCell | refine Nat.le_trans ?_ (Below.size (by assumption)))) (by simp) (by simp)))
    (first
      | (go_at_call 61; (with_reducible refine (CloneI_any Aa ca xs _ ?_ ?_).mono ?_); (exact HA.out.ext (by repeat' (first | with_reducible exact Below.refl _ _ | with_reducible assumption | with_reducible apply Below.drew | with_reducible apply below_drewN | with_reducible apply Below.alloc | with_reducible apply Below.setCell | (with_reducible refine Below.trans ?_ (Below.mono (by assumption) ?_)) | (simp; done) | (simp; omega) | omega | with_reducible apply le_size_alloc | with_reducible apply le_size_drewN | with_reducible apply le_size_drew | with_reducible apply le_size_setCell | refine Nat.le_trans ?_ (Below.size (by assumption))))); (omega); rintro e w1 ⟨A1, c1, rfl, ho1, hb1⟩)
      | (go_at_call 61; (with_reducible refine (CloneI_any Ai ci ys _ ?_ ?_).mono ?_); (exact HI.out.ext (by repeat' (first | with_reducible exact Below.refl _ _ | with_reducible assumption | with_reducible apply Below.drew | with_reducible apply below_drewN | with_reducible apply Below.alloc | with_reducible apply Below.setCell | (with_reducible refine Below.trans ?_ (Below.mono (by assumption) ?_)) | (simp; done) | (simp; omega) | omega | with_reducible apply le_size_alloc | with_reducible apply le_size_drewN | with_reducible apply le_size_drew | with_reducible apply le_size_setCell | refine Nat.le_trans ?_ (Below.size (by assumption))))); (omega); rintro e w2 ⟨A2, c2, rfl, ho2, hb2⟩)
      | (go_at_call 65; (with_reducible refine (CloneB_any Ar cr rs _ ?_ ?_).mono ?_); (exact HR.out.ext (by repeat' (first | with_reducible exact Below.refl _ _ | with_reducible assumption | with_reducible apply Below.drew | with_reducible apply below_drewN | with_reducible apply Below.alloc | with_reducible apply Below.setCell | (with_reducible refine Below.trans ?_ (Below.mono (by assumption) ?_)) | (simp; done) | (simp; omega) | omega | with_reducible apply le_size_alloc | with_reducible apply le_size_drewN | with_reducible apply le_size_drew | with_reducible apply le_size_setCell | refine Nat.le_trans ?_ (Below.size (by assumption))))); (omega); rintro e w3 ⟨A3, c3, rfl, ho3, hb3⟩; have hbl : Below (w.heap.size + 2) ((w.alloc (.cells #[.slice Aa xs.length ca, .slice Ai ys.length ci, .slice Ar rs.length cr] 25)).alloc (.cells #[.slice none 0 0, .slice none 0 0, .slice none 0 0] 25)) w3 := (by repeat' (first | with_reducible exact Below.refl _ _ | with_reducible assumption | with_reducible apply Below.drew | with_reducible apply below_drewN | with_reducible apply Below.alloc | with_reducible apply Below.setCell | (with_reducible refine Below.trans ?_ (Below.mono (by assumption) ?_)) | (simp; done) | (simp; omega) | omega | with_reducible apply le_size_alloc | with_reducible apply le_size_drewN | with_reducible apply le_size_drew | with_reducible apply le_size_setCell | refine Nat.le_trans ?_ (Below.size (by assumption)))); have q0 : w3.cell? ⟨w.heap.size + 1, 0, none⟩ = some (.slice none 0 0) := cell_keep hbl (by simp) (by simp); have q1 : w3.cell? ⟨w.heap.size + 1, 1, none⟩ = some (.slice none 0 0) := cell_keep hbl (by simp) (by simp); have q2 : w3.cell? ⟨w.heap.size + 1, 2, none⟩ = some (.slice none 0 0) := cell_keep hbl (by simp) (by simp); have q3 : w3.frozen? ⟨w.heap.size + 1, 0, none⟩ = false := frozen_keep hbl (by simp) (by simp); have q4 : w3.frozen? ⟨w.heap.size + 1, 1, none⟩ = false := frozen_keep hbl (by simp) (by simp); have q5 : w3.frozen? ⟨w.heap.size + 1, 2, none⟩ = false := frozen_keep hbl (by simp) (by simp)))
  go_wp2
  refine bodyPost_ret (v := .agg #[.slice A1 xs.length c1, .slice A2 ys.length c2, .slice A3 rs.length c3]) (by simp [results, Try.results70, go_sem, q0, q1, q2]) rfl ?_
  refine ⟨A1, c1, A2, c2, A3, c3, rfl, ?_, ?_⟩
  · have z1 : w1.heap.size ≤ w2.heap.size := hb2.size
    have z2 : w2.heap.size ≤ w3.heap.size := hb3.size
    have z0 : w.heap.size + 2 ≤ w1.heap.size := by have := hb1.size; simp at this; omega
    have o1 := (ho1.below hb2).below hb3
    have o2 := (ho2.below hb3)
    have hL : OwnL w3 (w.heap.size + 2) A1 c1 A2 c2 A3 c3 xs ys rs :=
      ⟨o1.base_ (by simp), o2.base_ z0, ho3.base_ (by omega),
        fun g e1 e2 => by have p1 := (ho1.block g e1).2; have p2 := (ho2.block g e2).1; omega,
        fun g e1 e2 => by have p1 := (ho1.block g e1).2; have p2 := (ho3.block g e2).1; omega,
        fun g e1 e2 => by have p1 := (ho2.block g e1).2; have p2 := (ho3.block g e2).1; omega⟩
    exact (((hL.far_ _ _ (by omega)).far_ _ _ (by omega)).far_ _ _ (by omega)).base_ (by omega)
  · exact (by repeat' (first | with_reducible exact Below.refl _ _ | with_reducible assumption | with_reducible apply Below.drew | with_reducible apply below_drewN | with_reducible apply Below.alloc | with_reducible apply Below.setCell | (with_reducible refine Below.trans ?_ (Below.mono (by assumption) ?_)) | (simp; done) | (simp; omega) | omega | with_reducible apply le_size_alloc | with_reducible apply le_size_drewN | with_reducible apply le_size_drew | with_reducible apply le_size_setCell | refine Nat.le_trans ?_ (Below.size (by assumption))))

def PopPost (R k base : Nat) (A : Option Addr) (xs : List Int) (w : World) (e : Ending) (w' : World) : Prop :=
  ∃ A' c' w1, e = .returned (.int .i64 (xs.getD (xs.length - 1) 0)) ∧ w' = w1.setCell ⟨R, k, none⟩ (.slice A' (xs.eraseIdx (xs.length - 1)).length c') ∧ w.grownBy w1 (A.map (·.block)) ∧
    Own w1 base 3 (.int .i64) (.slice A' (xs.eraseIdx (xs.length - 1)).length c') (xs.eraseIdx (xs.length - 1)) ∧ (A'.map (·.block) = A.map (·.block) ∨ ∃ g, A'.map (·.block) = some g ∧ w.heap.size ≤ g)

set_option maxRecDepth 100000 in
set_option maxHeartbeats 1000000 in
theorem pop_any (R k base : Nat) (A : Option Addr) (c : Nat) (xs : List Int) (w : World) (hcell : w.cell? ⟨R, k, none⟩ = some (.slice A xs.length c)) (hfz : w.frozen? ⟨R, k, none⟩ = false)
    (hown : Own w base 3 (.int .i64) (.slice A xs.length c) xs) (hR : A.map (·.block) ≠ some R) (hp : 0 < xs.length) (hn : xs.length ≤ 100000) :
    Calls Try.prog 62 #[.pointer (some ⟨R, k, none⟩)] w (PopPost R k base A xs w) := by
  rcases hown.form with ⟨_, rfl⟩ | ⟨g, cur, e, hbg, hh, hs, hm, hc⟩
  · simp at hp
  injection e with e1 _ e2
  subst e1 e2
  have hx : xs[xs.length - 1]? = some (xs.getD (xs.length - 1) 0) := by
    rw [List.getD_eq_getElem?_getD, List.getElem?_eq_getElem (by omega)]; rfl
  obtain ⟨x, hxx⟩ : ∃ x, x = xs.getD (xs.length - 1) 0 := ⟨_, rfl⟩
  rw [← hxx] at hx
  have HXX := Lib.hid hxx
  clear hxx
  have hcx : w.cell? ⟨g, xs.length - 1, none⟩ = some (.int .i64 x) := by rw [hh.cell_]; exact hc _ _ hx
  have HO := Lib.hid hown; have HR := Lib.hid hR
  clear hown hR hx hc hh
  go_enter Try.func62, Try.ntmps62
  go_wp2_with fail
  refine (DeleteL_any _ xs base (xs.length - 1) _ _ _ (by omega) (by omega) HO.out (by omega)).mono ?_
  rintro e w1 ⟨A', c', rfl, ho1, hg1, hl1⟩
  have hRg : some R ≠ (Value.slice (some ⟨g, 0, none⟩) xs.length cur.size).ownBlock := by
    intro e
    exact HR.out (by simpa [Value.ownBlock] using e.symm)
  have hRlt : R < w.heap.size := World.block_lt_of_cell? w ⟨R, k, none⟩ hcell
  have hblk := hg1.block R hRlt hRg
  have hc1 : w1.cell? ⟨R, k, none⟩ = some (.slice (some ⟨g, 0, none⟩) xs.length cur.size) := (World.cell?_of_block (a := ⟨R, k, none⟩) hblk).trans hcell
  have hf1 : w1.frozen? ⟨R, k, none⟩ = false := (World.frozen?_of_block (a := ⟨R, k, none⟩) hblk).trans hfz
  have HG := Lib.hid hg1; have HL := Lib.hid hl1; have HO1 := Lib.hid ho1
  clear hblk hRg hg1 hl1 ho1
  go_wp2
  go_ret
  exact ⟨A', c', w1, ret_int HXX.out, by rw [List.length_eraseIdx_of_lt (by omega)], by simpa [Value.ownBlock] using HG.out, HO1.out, by simpa [ownBlock_slice] using HL.out⟩

/-- A variable r of lists that the call has made: block R holds three rows of the call's own. -/
structure RS (W : World) (base R : Nat) (A1 : Option Addr) (c1 : Nat) (A2 : Option Addr) (c2 : Nat) (A3 : Option Addr) (c3 : Nat) (xs ys : List Int) (rs : List Bool) : Prop where
  blk : Blk W R 25 #[.slice A1 xs.length c1, .slice A2 ys.length c2, .slice A3 rs.length c3]
  own : OwnL W base A1 c1 A2 c2 A3 c3 xs ys rs
  f1 : A1.map (·.block) ≠ some R
  f2 : A2.map (·.block) ≠ some R
  f3 : A3.map (·.block) ≠ some R

section
variable {W w1 : World} {base R : Nat} {A1 A2 A3 : Option Addr} {c1 c2 c3 : Nat} {xs ys : List Int} {rs : List Bool}
theorem RS.start (h : OwnL W base A1 c1 A2 c2 A3 c3 xs ys rs) :
    RS (W.alloc (.cells #[.slice A1 xs.length c1, .slice A2 ys.length c2, .slice A3 rs.length c3] 25)) base W.heap.size A1 c1 A2 c2 A3 c3 xs ys rs :=
  ⟨Blk.new_ rfl rfl, h.below ((Below.refl _ _).alloc (Nat.le_refl _) _), fun e => by have := (h.a.block _ e).2; omega, fun e => by have := (h.i.block _ e).2; omega, fun e => by have := (h.r.block _ e).2; omega⟩
theorem RS.ext (h : RS W base R A1 c1 A2 c2 A3 c3 xs ys rs) (hb : Below W.heap.size W w1) : RS w1 base R A1 c1 A2 c2 A3 c3 xs ys rs :=
  ⟨h.blk.below_ hb h.blk.lt, h.own.below hb, h.f1, h.f2, h.f3⟩
theorem blk_grown {g : Nat} {t : TypeId} {cs : Array Value} {row : Option Nat} (h : Blk W g t cs) (hg : W.grownBy w1 row) (hne : row ≠ some g) : Blk w1 g t cs := (hg.block g h.lt (fun e => hne e.symm)).trans h
theorem row_ne {A B : Option Addr} (h : ∀ g, A.map (·.block) = some g → B.map (·.block) ≠ some g) (n c : Nat) : (Value.slice B n c).ownBlock = none ∨ (Value.slice B n c).ownBlock ≠ A.map (·.block) := by
  rw [ownBlock_slice]
  cases hb : B.map (·.block) with
  | none => exact .inl rfl
  | some g => exact .inr fun e => h g e.symm hb
/-- The active list is another row now (an insertion or a deletion), and its slice is stored. -/
theorem RS.act (h : RS W base R A1 c1 A2 c2 A3 c3 xs ys rs) {A : Option Addr} {c : Nat} {zs : List Int} (hg : W.grownBy w1 (A1.map (·.block))) (ho : Own w1 base 3 (.int .i64) (.slice A zs.length c) zs)
    (hl : A.map (·.block) = A1.map (·.block) ∨ ∃ g, A.map (·.block) = some g ∧ W.heap.size ≤ g) : RS (w1.setCell ⟨R, 0, none⟩ (.slice A zs.length c)) base R A c A2 c2 A3 c3 zs ys rs := by
  have hb1 := blk_grown h.blk hg h.f1
  have o2 := h.own.i.kept_ hg (row_ne h.own.ai _ _)
  have o3 := h.own.r.kept_ hg (row_ne h.own.ar _ _)
  have n1 : A.map (·.block) ≠ some R := by
    rcases hl with e | ⟨g, e, hge⟩
    · rw [e]; exact h.f1
    · rw [e]; intro e'; injection e' with e'; have := h.blk.lt; omega
  refine ⟨?_, ⟨ho.far_ _ _ n1, o2.far_ _ _ h.f2, o3.far_ _ _ h.f3, ?_, ?_, h.own.ir⟩, n1, h.f2, h.f3⟩
  · have := hb1.set_ 0 (.slice A zs.length c)
    simpa using this
  · intro g e e2
    rcases hl with e' | ⟨g', e', hge⟩
    · exact h.own.ai g (e'.symm.trans e) e2
    · have := (h.own.i.block g e2).2; rw [e'] at e; injection e with e; omega
  · intro g e e2
    rcases hl with e' | ⟨g', e', hge⟩
    · exact h.own.ar g (e'.symm.trans e) e2
    · have := (h.own.r.block g e2).2; rw [e'] at e; injection e with e; omega
/-- The inactive list is another row now, and its slice is stored. -/
theorem RS.inact (h : RS W base R A1 c1 A2 c2 A3 c3 xs ys rs) {A : Option Addr} {c : Nat} {zs : List Int} (hg : W.grownBy w1 (A2.map (·.block))) (ho : Own w1 base 3 (.int .i64) (.slice A zs.length c) zs)
    (hl : A.map (·.block) = A2.map (·.block) ∨ ∃ g, A.map (·.block) = some g ∧ W.heap.size ≤ g) : RS (w1.setCell ⟨R, 1, none⟩ (.slice A zs.length c)) base R A1 c1 A c A3 c3 xs zs rs := by
  have hb1 := blk_grown h.blk hg h.f2
  have o1 := h.own.a.kept_ hg (row_ne (A := A2) (fun g e e1 => h.own.ai g e1 e) _ _)
  have o3 := h.own.r.kept_ hg (row_ne h.own.ir _ _)
  have n1 : A.map (·.block) ≠ some R := by
    rcases hl with e | ⟨g, e, hge⟩
    · rw [e]; exact h.f2
    · rw [e]; intro e'; injection e' with e'; have := h.blk.lt; omega
  refine ⟨?_, ⟨o1.far_ _ _ h.f1, ho.far_ _ _ n1, o3.far_ _ _ h.f3, ?_, h.own.ar, ?_⟩, h.f1, n1, h.f3⟩
  · have := hb1.set_ 1 (.slice A zs.length c)
    simpa using this
  · intro g e e2
    rcases hl with e' | ⟨g', e', hge⟩
    · exact h.own.ai g e (e'.symm.trans e2)
    · have := (h.own.a.block g e).2; rw [e'] at e2; injection e2 with e2; omega
  · intro g e e2
    rcases hl with e' | ⟨g', e', hge⟩
    · exact h.own.ir g (e'.symm.trans e) e2
    · have := (h.own.r.block g e2).2; rw [e'] at e; injection e with e; omega
/-- A bit is stored. -/
theorem RS.bit (h : RS W base R A1 c1 A2 c2 A3 c3 xs ys rs) {f : Nat} (hf : f < rs.length) (b : Bool) : ∃ g, A3 = some ⟨g, 0, none⟩ ∧ (W.cell? ⟨g, f, none⟩ = some (.bool (rs.getD f false))) ∧ W.frozen? ⟨g, f, none⟩ = false ∧ base ≤ g ∧
    RS (W.setCell ⟨g, f, none⟩ (.bool b)) base R A1 c1 A2 c2 A3 c3 xs ys (rs.set f b) := by
  rcases h.own.r.form with ⟨_, rfl⟩ | ⟨g, cur, e, hbg, hh, hs, hm, hc⟩
  · simp at hf
  injection e with e1 _ e2
  subst e1 e2
  refine ⟨g, rfl, ?_, hh.frozen_ _, hbg, ?_⟩
  · rw [hh.cell_, hc f rs[f] (List.getElem?_eq_getElem hf), List.getD_eq_getElem?_getD, List.getElem?_eq_getElem hf]; rfl
  have hlen : (rs.set f b).length = rs.length := by simp
  have hR : R ≠ g := by rintro rfl; exact h.f3 rfl
  refine ⟨?_, ⟨h.own.a.far_ _ _ (fun e => h.own.ar g e rfl), h.own.i.far_ _ _ (fun e => h.own.ir g e rfl), ?_, h.own.ai, h.own.ar, h.own.ir⟩, h.f1, h.f2, h.f3⟩
  · rw [hlen]
    exact h.blk.far_ hR _
  · have hk := hh.set_ f (.bool b)
    have hcs : (cur.setIfInBounds f (.bool b)).size = cur.size := by simp
    have := Own.of_blk (mk := Value.bool) (xs := rs.set f b) hk hbg (by simpa using hs) (by simpa using hm) (fun j x hx => by
      have hj := (List.getElem?_eq_some_iff.1 hx).1
      rw [hlen] at hj
      rw [List.getElem?_set] at hx
      by_cases e : f = j
      · subst e
        rw [if_pos rfl, if_pos hf] at hx
        injection hx with hx
        have hlt : f < cur.size := by omega
        rw [← hx]
        simp [hlt]
      · rw [if_neg e] at hx
        rw [Array.getElem?_setIfInBounds_ne e]
        exact hc j x hx)
    rw [hcs] at this
    exact this
end
end Go.Proofs.Ytiobbdfkimpfbaa
