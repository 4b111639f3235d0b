/- Contracts of the kit's functions on lists: OwnLists, SameInts, SameBools, SameLists. -/
import Derived.Test.YtiobbdfkimpfbaaLru2
import Derived.Test.YtiobbdfkimpfbaaKit
import Derived.Deep.AppendSrc
import Derived.Deep.RegionHeld3
import Derived.Deep.DeepAppendWide
import Derived.Deep.DeepCutAuto
namespace Go.Proofs.Ytiobbdfkimpfbaa
set_option linter.unusedSimpArgs false
set_option linter.unusedVariables false
open Go.RowKit Go.Maps

section
variable {P : Program} {α : Type} {mk : α → Value} (w : World)
/-- append([]E..., s...) onto an empty literal: a row of the call's own that reads as s does, in memory that is new. -/
theorem run_append_fresh (t ty e : TypeId) (i : TypeInfo) (z : Value) (bytes : Nat) (ht : P.underlying t = some (.slice e)) (hi : P.info? e = some i) (hz : i.zero = some z) (hsize : i.size = 1) (hzs : z.cells.size = 1) (hby : i.bytes = bytes)
    (base g : Nat) (hg : Blk w g e #[]) (hbg : base ≤ g) (A : Option Addr) (c : Nat) (xs : List α) (h : Sl w mk A xs) (h1 : ∀ u ∈ xs.map mk, u.oneCell' = true) (hn : (2 * xs.length + 192) * bytes ≤ 281474976710656) (hl : xs.length ≤ 100000) :
    ∃ A' c' w', (Builtin.append_ #[t, t] ty #[.slice (some ⟨g, 0, none⟩) 0 0, .slice A xs.length c]).run P w = .ok (.slice A' xs.length c') w' ∧ Own w' base e mk (.slice A' xs.length c') xs ∧ Below w.heap.size w w' ∧ (∀ b, A'.map (·.block) = some b → b = g ∨ w.heap.size ≤ b) := by
  by_cases h0 : xs = []
  · subst h0
    refine ⟨some ⟨g, 0, none⟩, 0, w, ?_, Own.of_blk (cur := #[]) (xs := []) hg hbg (by simp) (by simp) (by simp), Below.refl _ _, fun b e => .inl (by simpa using e.symm)⟩
    have hfc : ∀ k, (Builtin.firstCells k 0 (.slice A 0 c)).run P w = .ok #[] w := by
      intro k
      cases A with
      | none => exact run_firstCells_none w k 0 0 c
      | some ad => exact run_firstCells_some w k 0 ad 0 c [] (by simp) (fun j u hu => by simp at hu)
    simp [Builtin.append_, run_underlying ht, sizeOf, typeInfo, hi, Builtin.lenOf, hfc, storeCells]
  · have hp : 0 < xs.length := List.length_pos_iff.2 h0
    obtain ⟨b, off, rfl, hb, hc⟩ := h hp
    have hsl : Sl w mk (some ⟨b, off, none⟩) xs := h
    have hsrc : Src P i.size t (.slice (some ⟨b, off, none⟩) xs.length c) xs.length (xs.map mk) w := by
      rw [hsize]
      exact Src.ofSlice w ht ⟨b, off, none⟩ xs.length c (xs.map mk) (by simp) hsl.cells h1
    have hold : (Builtin.firstCells i.size 0 (.slice (some ⟨g, 0, none⟩) 0 0)).run P w.drew = .ok ([] : List Value).toArray w.drew :=
      run_firstCells_some w.drew i.size 0 ⟨g, 0, none⟩ 0 0 [] (by simp) (fun j u hu => by simp at hu)
    have hr := run_append_grow_src w t t ty e i z ht hi hz (some ⟨g, 0, none⟩) 0 0 [] hold _ xs.length (xs.map mk) hsrc (by omega) (by omega)
      (growslice_fits_wide (by omega) (by rw [hby]; refine Nat.le_trans (Nat.mul_le_mul_right _ ?_) hn; omega))
    simp only [Nat.zero_add, List.nil_append] at hr
    have hge := grownCap_ge w xs.length 0 e
    have hle := grownCap_le_maxLen w xs.length 0 e (by unfold maxLen; omega)
    have hgl := hg.lt
    have hcz : ((xs.map mk).toArray ++ Builtin.zeroCells z.cells (grownCap w xs.length 0 e - xs.length)).size = grownCap w xs.length 0 e := by
      simp [Builtin.zeroCells, hzs]; omega
    refine ⟨_, _, _, hr, ?_, (Below.refl _ _).drew.alloc (Nat.le_refl _) _, fun b e => .inr (by simp at e; omega)⟩
    have o := Own.of_blk (w := w.drew.alloc (.cells ((xs.map mk).toArray ++ Builtin.zeroCells z.cells (grownCap w xs.length 0 e - xs.length)) e)) (base := base) (g := w.heap.size) (mk := mk) (xs := xs) (Blk.new_ (w := w.drew) rfl rfl) (by omega) (by rw [hcz]; exact hge) (by rw [hcz]; exact hle) (fun j x hx => by
      rw [Array.getElem?_append_left (by have := (List.getElem?_eq_some_iff.1 hx).1; simpa using this)]
      simp [hx])
    rw [hcz] at o
    exact o

theorem step_append_fresh {ops : Array Oper} {o : Oper} {a : Act} {K : Act → World → Prop} {Q : Exit → Act → World → Prop} {E : Prop} (hgd : o.guard = none) (s x : Operand) (t : TypeId)
    (ho : o.op = .call { callee := .builtin .append, args := #[s, x], argTypes := #[t, t] })
    (e : TypeId) (i : TypeInfo) (z : Value) (bytes : Nat) (ht : P.underlying t = some (.slice e)) (hi : P.info? e = some i) (hz : i.zero = some z) (hsize : i.size = 1) (hzs : z.cells.size = 1) (hby : i.bytes = bytes)
    (base g : Nat) (hg : Blk w g e #[]) (hbg : base ≤ g) (A : Option Addr) (c : Nat) (xs : List α) (hs : a.eval s = .slice (some ⟨g, 0, none⟩) 0 0) (hx : a.eval x = .slice A xs.length c) (h : Sl w mk A xs) (h1 : ∀ u ∈ xs.map mk, u.oneCell' = true)
    (hn : (2 * xs.length + 192) * bytes ≤ 281474976710656) (hl : xs.length ≤ 100000)
    (hK : ∀ A' c' w', Own w' base e mk (.slice A' xs.length c') xs → Below w.heap.size w w' → (∀ b, A'.map (·.block) = some b → b = g ∨ w.heap.size ≤ b) → K (a.put o.dst (.slice A' xs.length c')) w') :
    if Region.wanted o (yielded ops a.tmps) = true then Oper.wp P o a w K Q else E := by
  have hw : Region.wanted o (yielded ops a.tmps) = true := by simp [Region.wanted, hgd]
  rw [if_pos hw]
  obtain ⟨A', c', w', hrun, h2, h3, h4⟩ := run_append_fresh w t o.type e i z bytes ht hi hz hsize hzs hby base g hg hbg A c xs h h1 hn hl
  unfold Oper.wp execOp
  simp only [ho, resolve, invoke, builtin, Sem.run_bind, Sem.run_pure, Result.andThen_ok, List.map_toArray, List.map_cons, List.map_nil, hs, hx, hrun]
  exact hK A' c' w' h2 h3 h4
end

theorem cells3 {w : World} {B : Nat} {u0 u1 u2 : Value} (q0 : w.cell? ⟨B, 0, none⟩ = some u0) (q1 : w.cell? ⟨B, 1, none⟩ = some u1) (q2 : w.cell? ⟨B, 2, none⟩ = some u2) (s1 s2 s3 : Value) :
    (((w.setCell ⟨B, 0, none⟩ s1).setCell ⟨B, 1, none⟩ s2).setCell ⟨B, 2, none⟩ s3).cell? ⟨B, 0, none⟩ = some s1 ∧ (((w.setCell ⟨B, 0, none⟩ s1).setCell ⟨B, 1, none⟩ s2).setCell ⟨B, 2, none⟩ s3).cell? ⟨B, 1, none⟩ = some s2 ∧
    (((w.setCell ⟨B, 0, none⟩ s1).setCell ⟨B, 1, none⟩ s2).setCell ⟨B, 2, none⟩ s3).cell? ⟨B, 2, none⟩ = some s3 := by
  simp [go_sem, q0, q1, q2]
theorem below3 {w w' : World} {B C : Nat} (h : Below C w w') (hB : C ≤ B) (s1 s2 s3 : Value) : Below C w (((w'.setCell ⟨B, 0, none⟩ s1).setCell ⟨B, 1, none⟩ s2).setCell ⟨B, 2, none⟩ s3) :=
  ((h.setCell hB _).setCell hB _).setCell hB _
theorem Sl.far3 {α : Type} {w : World} {mk : α → Value} {A : Option Addr} {xs : List α} {B : Nat} (h : Sl w mk A xs) (hB : ∀ g, A.map (·.block) = some g → g ≠ B) (s1 s2 s3 : Value) :
    Sl (((w.setCell ⟨B, 0, none⟩ s1).setCell ⟨B, 1, none⟩ s2).setCell ⟨B, 2, none⟩ s3) mk A xs := fun hn => by
  obtain ⟨b, off, e, hlt, hc⟩ := h hn
  have hne : b ≠ B := hB b (by rw [e]; rfl)
  refine ⟨b, off, e, by simpa [World.setCell] using hlt, fun j x hx => ?_⟩
  rw [World.cell?_setCell_other _ _ _ _ (by intro e; injection e with e1; omega), World.cell?_setCell_other _ _ _ _ (by intro e; injection e with e1; omega), World.cell?_setCell_other _ _ _ _ (by intro e; injection e with e1; omega)]
  exact hc j x hx
def OwnCut (xs ys : List Int) (rs : List Bool) (w wx : World) : Prop :=
  ∃ A1 c1 A2 c2 A3 c3, wx.cell? ⟨w.heap.size + 1, 0, none⟩ = some (.slice A1 xs.length c1) ∧ wx.cell? ⟨w.heap.size + 1, 1, none⟩ = some (.slice A2 ys.length c2) ∧ wx.cell? ⟨w.heap.size + 1, 2, none⟩ = some (.slice A3 rs.length c3) ∧
    OwnL wx w.heap.size A1 c1 A2 c2 A3 c3 xs ys rs ∧ Below w.heap.size w wx

def OwnPost (xs ys : List Int) (rs : List Bool) (w : World) (e : Ending) (w' : World) : Prop :=
  ∃ A1 c1 A2 c2 A3 c3, e = .returned (.agg #[.slice A1 xs.length c1, .slice A2 ys.length c2, .slice A3 rs.length c3]) ∧ OwnL w' w.heap.size A1 c1 A2 c2 A3 c3 xs ys rs ∧ Below w.heap.size w w'

set_option maxRecDepth 100000 in
set_option maxHeartbeats 2000000 in
theorem OwnLists_any (Aa Ai Ar : Option Addr) (ca ci cr : Nat) (xs ys : List Int) (rs : List Bool) (w : World) (ha : Sl w (.int .i64) Aa xs) (hi : Sl w (.int .i64) Ai ys) (hr : Sl w .bool Ar rs)
    (la : xs.length ≤ 1000) (li : ys.length ≤ 1000) (lr : rs.length ≤ 1000) :
    Calls Try.prog 12 #[.agg #[.slice Aa xs.length ca, .slice Ai ys.length ci, .slice Ar rs.length cr]] w (OwnPost xs ys rs w) := by
  have HA := Lib.hid ha; have HI := Lib.hid hi; have HR := Lib.hid hr
  clear ha hi hr
  obtain ⟨i0, hi0, hz0, hz1, hz2⟩ := info_parts intInfo
  obtain ⟨j0, hj0, hy0, hy1, hy2⟩ := info_parts boolInfo
  go_enter Try.func12, Try.ntmps12
  go_upto_region 1 with fail
  go_cut [] (fun wx => OwnCut xs ys rs w wx)
  case first =>
   go_region_held3 (fun W => W.cell? ⟨w.heap.size, 0, none⟩ = some (.slice Aa xs.length ca) ∧ W.cell? ⟨w.heap.size, 1, none⟩ = some (.slice Ai ys.length ci) ∧ W.cell? ⟨w.heap.size, 2, none⟩ = some (.slice Ar rs.length cr))
    (refine ⟨?_, ?_, ?_⟩ <;> (refine cell_keep (B := w.heap.size + 1) (a := w.alloc (.cells #[.slice Aa xs.length ca, .slice Ai ys.length ci, .slice Ar rs.length cr] 25)) (by repeat' (first | with_reducible exact Below.refl _ _ | with_reducible assumption | with_reducible apply Below.drew | with_reducible apply below_drewN | with_reducible apply Below.alloc | with_reducible apply Below.setCell | (with_reducible refine Below.trans ?_ (Below.mono (by assumption) ?_)) | (simp; done) | (simp; omega) | omega | with_reducible apply le_size_alloc | with_reducible apply le_size_drewN | with_reducible apply le_size_drew | with_reducible apply le_size_setCell | refine Nat.le_trans ?_ (Below.size (by assumption)))) (by simp) (by simp)))
    (first
      | (refine step_append_fresh (mk := Value.int .i64) _ rfl (.tmp 3) (.tmp 5) _ rfl 3 i0 _ 8 Try.underlying22 hi0 hz0 hz1 rfl hz2 (w.heap.size + 2) _ ?_ ?_ Aa ca xs rfl rfl (HA.out.ext (by repeat' (first | with_reducible exact Below.refl _ _ | with_reducible assumption | with_reducible apply Below.drew | with_reducible apply below_drewN | with_reducible apply Below.alloc | with_reducible apply Below.setCell | (with_reducible refine Below.trans ?_ (Below.mono (by assumption) ?_)) | (simp; done) | (simp; omega) | omega | with_reducible apply le_size_alloc | with_reducible apply le_size_drewN | with_reducible apply le_size_drew | with_reducible apply le_size_setCell | refine Nat.le_trans ?_ (Below.size (by assumption))))) (int_one xs) (by omega) (by omega) ?_; (exact (by repeat' (first | with_reducible assumption | (with_reducible refine Blk.new_ ?_ ?_ <;> first | (simp; done) | rfl) | with_reducible apply Blk.drew_ | with_reducible apply Blk.drewN_ | with_reducible apply Blk.alloc_ | with_reducible refine Blk.far_ ?_ ?_ _ | (with_reducible refine Blk.below_ ?_ (by assumption) ?_) | (simp; done) | (simp; omega) | omega | with_reducible apply le_size_alloc | with_reducible apply lt_size_alloc | with_reducible apply le_size_drewN | with_reducible apply le_size_drew | with_reducible apply le_size_setCell | refine Nat.lt_of_lt_of_le ?_ (Below.size (by assumption)) | refine Nat.le_trans ?_ (Below.size (by assumption))))); (first | omega | (simp; done) | (simp; omega) | (have q1 := hb1.size; have q2 := hb2.size; first | omega | (simp at q1 q2 ⊢; omega) | (simp at q1 q2; omega) | (simp at q1; omega)) | (have q1 := hb1.size; first | omega | (simp at q1 ⊢; omega) | (simp at q1; omega))); intro A1 c1 w1 hs1 hb1 hl1)
      | (refine step_append_fresh (mk := Value.int .i64) _ rfl (.tmp 7) (.tmp 9) _ rfl 3 i0 _ 8 Try.underlying22 hi0 hz0 hz1 rfl hz2 (w.heap.size + 2) _ ?_ ?_ Ai ci ys rfl rfl (HI.out.ext (by repeat' (first | with_reducible exact Below.refl _ _ | with_reducible assumption | with_reducible apply Below.drew | with_reducible apply below_drewN | with_reducible apply Below.alloc | with_reducible apply Below.setCell | (with_reducible refine Below.trans ?_ (Below.mono (by assumption) ?_)) | (simp; done) | (simp; omega) | omega | with_reducible apply le_size_alloc | with_reducible apply le_size_drewN | with_reducible apply le_size_drew | with_reducible apply le_size_setCell | refine Nat.le_trans ?_ (Below.size (by assumption))))) (int_one ys) (by omega) (by omega) ?_; (exact (by repeat' (first | with_reducible assumption | (with_reducible refine Blk.new_ ?_ ?_ <;> first | (simp; done) | rfl) | with_reducible apply Blk.drew_ | with_reducible apply Blk.drewN_ | with_reducible apply Blk.alloc_ | with_reducible refine Blk.far_ ?_ ?_ _ | (with_reducible refine Blk.below_ ?_ (by assumption) ?_) | (simp; done) | (simp; omega) | omega | with_reducible apply le_size_alloc | with_reducible apply lt_size_alloc | with_reducible apply le_size_drewN | with_reducible apply le_size_drew | with_reducible apply le_size_setCell | refine Nat.lt_of_lt_of_le ?_ (Below.size (by assumption)) | refine Nat.le_trans ?_ (Below.size (by assumption))))); (first | omega | (simp; done) | (simp; omega) | (have q1 := hb1.size; have q2 := hb2.size; first | omega | (simp at q1 q2 ⊢; omega) | (simp at q1 q2; omega) | (simp at q1; omega)) | (have q1 := hb1.size; first | omega | (simp at q1 ⊢; omega) | (simp at q1; omega))); intro A2 c2 w2 hs2 hb2 hl2)
      | (refine step_append_fresh (mk := Value.bool) _ rfl (.tmp 11) (.tmp 13) _ rfl 4 j0 _ 1 Try.underlying23 hj0 hy0 hy1 rfl hy2 (w.heap.size + 2) _ ?_ ?_ Ar cr rs rfl rfl (HR.out.ext (by repeat' (first | with_reducible exact Below.refl _ _ | with_reducible assumption | with_reducible apply Below.drew | with_reducible apply below_drewN | with_reducible apply Below.alloc | with_reducible apply Below.setCell | (with_reducible refine Below.trans ?_ (Below.mono (by assumption) ?_)) | (simp; done) | (simp; omega) | omega | with_reducible apply le_size_alloc | with_reducible apply le_size_drewN | with_reducible apply le_size_drew | with_reducible apply le_size_setCell | refine Nat.le_trans ?_ (Below.size (by assumption))))) (bool_one rs) (by omega) (by omega) ?_; (exact (by repeat' (first | with_reducible assumption | (with_reducible refine Blk.new_ ?_ ?_ <;> first | (simp; done) | rfl) | with_reducible apply Blk.drew_ | with_reducible apply Blk.drewN_ | with_reducible apply Blk.alloc_ | with_reducible refine Blk.far_ ?_ ?_ _ | (with_reducible refine Blk.below_ ?_ (by assumption) ?_) | (simp; done) | (simp; omega) | omega | with_reducible apply le_size_alloc | with_reducible apply lt_size_alloc | with_reducible apply le_size_drewN | with_reducible apply le_size_drew | with_reducible apply le_size_setCell | refine Nat.lt_of_lt_of_le ?_ (Below.size (by assumption)) | refine Nat.le_trans ?_ (Below.size (by assumption))))); (first | omega | (simp; done) | (simp; omega) | (have q1 := hb1.size; have q2 := hb2.size; first | omega | (simp at q1 q2 ⊢; omega) | (simp at q1 q2; omega) | (simp at q1; omega)) | (have q1 := hb1.size; first | omega | (simp at q1 ⊢; omega) | (simp at q1; omega))); intro A3 c3 w3 hs3 hb3 hl3; have hbl : Below (w.heap.size + 2) ((w.alloc (.cells #[.slice Aa xs.length ca, .slice Ai ys.length ci, .slice Ar rs.length cr] 25)).alloc (.cells #[.slice none 0 0, .slice none 0 0, .slice none 0 0] 25)) w3 := (by repeat' (first | with_reducible exact Below.refl _ _ | with_reducible assumption | with_reducible apply Below.drew | with_reducible apply below_drewN | with_reducible apply Below.alloc | with_reducible apply Below.setCell | (with_reducible refine Below.trans ?_ (Below.mono (by assumption) ?_)) | (simp; done) | (simp; omega) | omega | with_reducible apply le_size_alloc | with_reducible apply le_size_drewN | with_reducible apply le_size_drew | with_reducible apply le_size_setCell | refine Nat.le_trans ?_ (Below.size (by assumption)))); have q0 : w3.cell? ⟨w.heap.size + 1, 0, none⟩ = some (.slice none 0 0) := cell_keep hbl (by simp) (by simp); have q1 : w3.cell? ⟨w.heap.size + 1, 1, none⟩ = some (.slice none 0 0) := cell_keep hbl (by simp) (by simp); have q2 : w3.cell? ⟨w.heap.size + 1, 2, none⟩ = some (.slice none 0 0) := cell_keep hbl (by simp) (by simp); have q3 : w3.frozen? ⟨w.heap.size + 1, 0, none⟩ = false := frozen_keep hbl (by simp) (by simp); have q4 : w3.frozen? ⟨w.heap.size + 1, 1, none⟩ = false := frozen_keep hbl (by simp) (by simp); have q5 : w3.frozen? ⟨w.heap.size + 1, 2, none⟩ = false := frozen_keep hbl (by simp) (by simp)))
   all_goals
    go_wp2_with fail
    go_meet
    have z1 : w.heap.size + 2 ≤ w1.heap.size := by have := hb1.size; first | omega | (simp at this; omega)
    have z2 : w1.heap.size ≤ w2.heap.size := by have := hb2.size; first | omega | (simp at this; omega)
    have z3 : w2.heap.size ≤ w3.heap.size := by have := hb3.size; first | omega | (simp at this; omega)
    obtain ⟨r0, r1, r2⟩ := cells3 q0 q1 q2 (.slice A1 xs.length c1) (.slice A2 ys.length c2) (.slice A3 rs.length c3)
    have HBL := Lib.hid hbl
    clear hbl
    have g2 : Below w2.heap.size w2 w3 := (by repeat' (first | with_reducible exact Below.refl _ _ | with_reducible assumption | with_reducible apply Below.drew | with_reducible apply below_drewN | with_reducible apply Below.alloc | with_reducible apply Below.setCell | (with_reducible refine Below.trans ?_ (Below.mono (by assumption) ?_)) | (simp; done) | (simp; omega) | omega | with_reducible apply le_size_alloc | with_reducible apply le_size_drewN | with_reducible apply le_size_drew | with_reducible apply le_size_setCell | refine Nat.le_trans ?_ (Below.size (by assumption))))
    have g1 : Below w1.heap.size w1 w3 := (by repeat' (first | with_reducible exact Below.refl _ _ | with_reducible assumption | with_reducible apply Below.drew | with_reducible apply below_drewN | with_reducible apply Below.alloc | with_reducible apply Below.setCell | (with_reducible refine Below.trans ?_ (Below.mono (by assumption) ?_)) | (simp; done) | (simp; omega) | omega | with_reducible apply le_size_alloc | with_reducible apply le_size_drewN | with_reducible apply le_size_drew | with_reducible apply le_size_setCell | refine Nat.le_trans ?_ (Below.size (by assumption))))
    have hw : Below w.heap.size w w3 := ((Below.refl _ _).alloc (Nat.le_refl _) _ |>.alloc (by simp) _).trans (HBL.out.mono (by omega))
    have o1 := hs1.below g1
    have o2 := hs2.below g2
    have y1 := hb1.size; have y2 := hb2.size; have y3 := hb3.size
    (try simp at y1); (try simp at y2); (try simp at y3)
    have k1 : ∀ g, A1.map (·.block) = some g → _ := fun g e => (hs1.block g e).2
    have k2 : ∀ g, A2.map (·.block) = some g → _ := fun g e => (hs2.block g e).2
    have hL : OwnL w3 (w.heap.size + 2) A1 c1 A2 c2 A3 c3 xs ys rs := by
      refine ⟨o1, o2, hs3, fun g e e' => ?_, fun g e e' => ?_, fun g e e' => ?_⟩
      · have a1 := k1 g e
        rcases hl1 g e with h | h <;> rcases hl2 g e' with h' | h' <;> first | omega | (simp at h h'; omega) | (simp at h; omega) | (simp at h'; omega)
      · have a1 := k1 g e
        rcases hl1 g e with h | h <;> rcases hl3 g e' with h' | h' <;> first | omega | (simp at h h'; omega) | (simp at h; omega) | (simp at h'; omega)
      · have a1 := k2 g e
        rcases hl2 g e with h | h <;> rcases hl3 g e' with h' | h' <;> first | omega | (simp at h h'; omega) | (simp at h; omega) | (simp at h'; omega)
    exact ⟨A1, c1, A2, c2, A3, c3, r0, r1, r2, (((hL.far_ _ _ (by omega)).far_ _ _ (by omega)).far_ _ _ (by omega)).base_ (by omega), below3 hw (by omega) _ _ _⟩
  case rest =>
    obtain ⟨A1, c1, A2, c2, A3, c3, q0, q1, q2, hL, hb⟩ := hcut
    have HH := Lib.hid (And.intro hL hb)
    clear hL hb
    go_wp2
    refine bodyPost_ret (v := .agg #[.slice A1 xs.length c1, .slice A2 ys.length c2, .slice A3 rs.length c3]) (by simp [results, Try.results12, go_sem, q0, q1, q2]) rfl ?_
    exact ⟨A1, c1, A2, c2, A3, c3, rfl, HH.out.1, HH.out.2⟩
end Go.Proofs.Ytiobbdfkimpfbaa
