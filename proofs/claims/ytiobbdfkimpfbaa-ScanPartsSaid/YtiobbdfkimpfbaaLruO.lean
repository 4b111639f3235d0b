/- Contracts of lru.Order and lru.Last, and of the kit's Has. -/
import Derived.Test.YtiobbdfkimpfbaaLruW
namespace Go.Proofs.Ytiobbdfkimpfbaa
set_option linter.unusedSimpArgs false
set_option linter.unusedVariables false
open Go.RowKit Go.Maps

/-- Three rows of the call's own and a variable (block R) that holds the second one. -/
structure PS (W : World) (base R : Nat) (A1 : Option Addr) (c1 : Nat) (A2 : Option Addr) (c2 : Nat) (A3 : Option Addr) (c3 : Nat) (ds ls xs : List Int) : Prop where
  d : Own W base 3 (.int .i64) (.slice A1 ds.length c1) ds
  l : Own W base 3 (.int .i64) (.slice A2 ls.length c2) ls
  o : Own W base 3 (.int .i64) (.slice A3 xs.length c3) xs
  dl : ∀ g, A1.map (·.block) = some g → A2.map (·.block) ≠ some g
  do_ : ∀ g, A1.map (·.block) = some g → A3.map (·.block) ≠ some g
  lo : ∀ g, A2.map (·.block) = some g → A3.map (·.block) ≠ some g
  blk : Blk W R 88 #[.slice A2 ls.length c2]
  f1 : A1.map (·.block) ≠ some R
  f2 : A2.map (·.block) ≠ some R
  f3 : A3.map (·.block) ≠ some R

section
variable {W w1 : World} {base R : Nat} {A1 A2 A3 : Option Addr} {c1 c2 c3 : Nat} {ds ls xs : List Int}
theorem PS.ext (h : PS W base R A1 c1 A2 c2 A3 c3 ds ls xs) (hb : Below W.heap.size W w1) : PS w1 base R A1 c1 A2 c2 A3 c3 ds ls xs :=
  ⟨h.d.below hb, h.l.below hb, h.o.below hb, h.dl, h.do_, h.lo, h.blk.below_ hb h.blk.lt, h.f1, h.f2, h.f3⟩
theorem PS.pop (h : PS W base R A1 c1 A2 c2 A3 c3 ds ls xs) {A : Option Addr} {c : Nat} {zs : List Int} (hg : W.grownBy w1 (A2.map (·.block))) (ho : Own w1 base 3 (.int .i64) (.slice A zs.length c) zs)
    (hl : A.map (·.block) = A2.map (·.block) ∨ ∃ g, A.map (·.block) = some g ∧ W.heap.size ≤ g) : PS (w1.setCell ⟨R, 0, none⟩ (.slice A zs.length c)) base R A1 c1 A c A3 c3 ds zs xs := by
  have hb1 := blk_grown h.blk hg h.f2
  have o1 := h.d.kept_ hg (row_ne (A := A2) (fun g e e1 => h.dl g e1 e) _ _)
  have o3 := h.o.kept_ hg (row_ne h.lo _ _)
  have n1 : A.map (·.block) ≠ some R := by
    rcases hl with e | ⟨g, e, hge⟩
    · rw [e]; exact h.f2
    · rw [e]; intro e'; injection e' with e'; have := h.blk.lt; omega
  refine ⟨o1.far_ _ _ h.f1, ho.far_ _ _ n1, o3.far_ _ _ h.f3, ?_, h.do_, ?_, ?_, h.f1, n1, h.f3⟩
  · intro g e e2
    rcases hl with e' | ⟨g', e', hge⟩
    · exact h.dl g e (e'.symm.trans e2)
    · have := (h.d.block g e).2; rw [e'] at e2; injection e2 with e2; omega
  · intro g e e2
    rcases hl with e' | ⟨g', e', hge⟩
    · exact h.lo g (e'.symm.trans e) e2
    · have := (h.o.block g e2).2; rw [e'] at e; injection e with e; omega
  · have := hb1.set_ 0 (.slice A zs.length c)
    simpa using this
theorem PS.app (h : PS W base R A1 c1 A2 c2 A3 c3 ds ls xs) {A : Option Addr} {c : Nat} {zs : List Int} (hg : W.grownBy w1 (A1.map (·.block))) (ho : Own w1 base 3 (.int .i64) (.slice A zs.length c) zs)
    (hl : A.map (·.block) = A1.map (·.block) ∨ ∃ g, A.map (·.block) = some g ∧ W.heap.size ≤ g) : PS w1 base R A c A2 c2 A3 c3 zs ls xs := by
  have n1 : A.map (·.block) ≠ some R := by
    rcases hl with e | ⟨g, e, hge⟩
    · rw [e]; exact h.f1
    · rw [e]; intro e'; injection e' with e'; have := h.blk.lt; omega
  refine ⟨ho, h.l.kept_ hg (row_ne h.dl _ _), h.o.kept_ hg (row_ne h.do_ _ _), ?_, ?_, h.lo, blk_grown h.blk hg h.f1, n1, h.f2, h.f3⟩
  · intro g e e2
    rcases hl with e' | ⟨g', e', hge⟩
    · exact h.dl g (e'.symm.trans e) e2
    · have := (h.l.block g e2).2; rw [e'] at e; injection e with e; omega
  · intro g e e2
    rcases hl with e' | ⟨g', e', hge⟩
    · exact h.do_ g (e'.symm.trans e) e2
    · have := (h.o.block g e2).2; rw [e'] at e; injection e with e; omega
/-- The next list is put into a new variable. -/
theorem PS.next (h : PS W base R A1 c1 A2 c2 A3 c3 ds ls xs) : PS (W.alloc (.cells #[.slice A3 xs.length c3] 88)) base W.heap.size A1 c1 A3 c3 none 0 ds xs [] := by
  have hb : Below W.heap.size W (W.alloc (.cells #[.slice A3 xs.length c3] 88)) := (Below.refl _ _).alloc (Nat.le_refl _) _
  exact ⟨h.d.below hb, h.o.below hb, World.ownsRow_nil _ _ _ _, h.do_, by simp, by simp, Blk.new_ rfl rfl, fun e => by have := (h.d.block _ e).2; omega, fun e => by have := (h.o.block _ e).2; omega, by simp⟩
end

theorem lidx0 (x y : Value) (w : World) : (Instr.index 89 (.agg #[x, y]) (.int .i64 0)).run Try.prog w = .ok x w := by kernel_rfl
theorem lidx1 (x y : Value) (w : World) : (Instr.index 89 (.agg #[x, y]) (.int .i64 1)).run Try.prog w = .ok y w := by kernel_rfl
def lenOf : Value → Nat | .slice _ n _ => n | _ => 0

theorem erase_last' {xs : List Int} (h : 0 < xs.length) : xs.reverse = xs.getD (xs.length - 1) 0 :: (xs.eraseIdx (xs.length - 1)).reverse := by
  have e : xs.eraseIdx (xs.length - 1) ++ [xs.getD (xs.length - 1) 0] = xs := by
    rw [List.eraseIdx_eq_take_drop_succ, show xs.length - 1 + 1 = xs.length by omega, List.drop_length, List.append_nil, List.getD_eq_getElem?_getD, List.getElem?_eq_getElem (by omega), Option.getD_some]
    have := List.take_succ_eq_append_getElem (l := xs) (i := xs.length - 1) (by omega)
    rw [← this, show xs.length - 1 + 1 = xs.length by omega, List.take_length]
  generalize xs.getD (xs.length - 1) 0 = l at *
  generalize xs.eraseIdx (xs.length - 1) = d at *
  rw [← e]; simp

def OrderPost (os : List Int) (w : World) (e : Ending) (w' : World) : Prop :=
  ∃ A c, e = .returned (.tuple #[.slice A os.length c, .int .i64 0]) ∧ Own w' w.heap.size 3 (.int .i64) (.slice A os.length c) os ∧ Below w.heap.size w w'

set_option maxHeartbeats 400000 in
theorem Order_bad (Aa Ai Ar : Option Addr) (ca ci cr : Nat) (xs ys : List Int) (rs : List Bool) (z : Int) (w : World) (hm : InMem w Aa Ai Ar xs ys rs) (hc : lruChk xs ys rs = z) (hz : z ≠ 0) :
    Calls Try.prog 34 #[.agg #[.slice Aa xs.length ca, .slice Ai ys.length ci, .slice Ar rs.length cr]] w fun e w' => e = .returned (.tuple #[.slice none 0 0, .int .i64 z]) ∧ Below w.heap.size w w' := by
  have HM := Lib.hid hm; have HC := Lib.hid hc
  clear hm hc
  have hne : (z != 0) = true := by simpa using hz
  clear hz
  go_enter Try.func34, Try.ntmps34
  go_wp2_with fail
  refine ((HM.out.ext (by repeat' (first | with_reducible exact Below.refl _ _ | with_reducible assumption | with_reducible apply Below.drew | with_reducible apply below_drewN | with_reducible apply Below.alloc | with_reducible apply Below.setCell | (with_reducible refine Below.trans ?_ (Below.mono (by assumption) ?_)) | (simp; done) | (simp; omega) | omega | with_reducible apply le_size_alloc | with_reducible apply le_size_drewN | with_reducible apply le_size_drew | with_reducible apply le_size_setCell | refine Nat.le_trans ?_ (Below.size (by assumption))))).check _ _ _).mono ?_
  rw [HC.out]
  rintro e w1 ⟨rfl, hb1⟩
  go_wp2
  go_ret2
  exact ⟨rfl, (by repeat' (first | with_reducible exact Below.refl _ _ | with_reducible assumption | with_reducible apply Below.drew | with_reducible apply below_drewN | with_reducible apply Below.alloc | with_reducible apply Below.setCell | (with_reducible refine Below.trans ?_ (Below.mono (by assumption) ?_)) | (simp; done) | (simp; omega) | omega | with_reducible apply le_size_alloc | with_reducible apply le_size_drewN | with_reducible apply le_size_drew | with_reducible apply le_size_setCell | refine Nat.le_trans ?_ (Below.size (by assumption))))⟩

set_option maxRecDepth 100000 in
set_option maxHeartbeats 2000000 in
theorem Order_ok (Aa Ai Ar : Option Addr) (ca ci cr : Nat) (xs ys : List Int) (rs : List Bool) (w : World) (hm : InMem w Aa Ai Ar xs ys rs) (hc : lruChk xs ys rs = 0) :
    Calls Try.prog 34 #[.agg #[.slice Aa xs.length ca, .slice Ai ys.length ci, .slice Ar rs.length cr]] w (OrderPost (ys.reverse ++ xs.reverse) w) := by
  have hv := valid_of_chk hc
  have hlen := hv.len
  have hhi := hv.hi
  have HM := Lib.hid hm; have HC := Lib.hid hc
  clear hm hc hv
  obtain ⟨i0, hi0, hz0, hz1, hz2⟩ := info_parts intInfo
  have hmk := fun (W : World) => run_make (P := Try.prog) W 22 3 i0 (.int .i64 0) Try.underlying22 hi0 hz0 .i64 .i64 0 ((ys.length : Int) + xs.length) (by omega) (by omega) (by rw [hz2]; omega) (by omega)
  have i0' := lidx0; have i1' := lidx1
  go_enter Try.func34, Try.ntmps34
  go_wp2_with fail
  have hm1 := HM.out.ext (w' := (w.alloc (.cells #[.slice Aa xs.length ca, .slice Ai ys.length ci, .slice Ar rs.length cr] 25))) (by repeat' (first | with_reducible exact Below.refl _ _ | with_reducible assumption | with_reducible apply Below.drew | with_reducible apply below_drewN | with_reducible apply Below.alloc | with_reducible apply Below.setCell | (with_reducible refine Below.trans ?_ (Below.mono (by assumption) ?_)) | (simp; done) | (simp; omega) | omega | with_reducible apply le_size_alloc | with_reducible apply le_size_drewN | with_reducible apply le_size_drew | with_reducible apply le_size_setCell | refine Nat.le_trans ?_ (Below.size (by assumption))))
  refine (hm1.check _ _ _).mono ?_
  rw [HC.out]
  rintro e w1 ⟨rfl, hb1⟩
  have p0 : w1.cell? ⟨w.heap.size, 0, none⟩ = some (.slice Aa xs.length ca) := cell_keep hb1 (by simp) (by simp)
  have p1 : w1.cell? ⟨w.heap.size, 1, none⟩ = some (.slice Ai ys.length ci) := cell_keep hb1 (by simp) (by simp)
  have z1 : w.heap.size < w1.heap.size := by have := hb1.size; simp at this; omega
  have M1 := Lib.hid (hm1.ext hb1)
  clear hm1
  go_wp2_with fail
  go_region_held3 (fun W => W.cell? ⟨w.heap.size, 0, none⟩ = some (.slice Aa xs.length ca) ∧ W.cell? ⟨w.heap.size, 1, none⟩ = some (.slice Ai ys.length ci))
    (refine ⟨?_, ?_⟩ <;> (refine cell_keep (B := w1.heap.size) (a := w1) (by repeat' (first | with_reducible exact Below.refl _ _ | with_reducible assumption | with_reducible apply Below.drew | with_reducible apply below_drewN | with_reducible apply Below.alloc | with_reducible apply Below.setCell | (with_reducible refine Below.trans ?_ (Below.mono (by assumption) ?_)) | (simp; done) | (simp; omega) | omega | with_reducible apply le_size_alloc | with_reducible apply le_size_drewN | with_reducible apply le_size_drew | with_reducible apply le_size_setCell | refine Nat.le_trans ?_ (Below.size (by assumption)))) (by assumption) (by simp; omega)))
    (first
      | (go_at_call 61; (with_reducible refine (CloneI_any Ai ci ys _ ?_ ?_).mono ?_); (exact M1.out.i.ext (by repeat' (first | with_reducible exact Below.refl _ _ | with_reducible assumption | with_reducible apply Below.drew | with_reducible apply below_drewN | with_reducible apply Below.alloc | with_reducible apply Below.setCell | (with_reducible refine Below.trans ?_ (Below.mono (by assumption) ?_)) | (simp; done) | (simp; omega) | omega | with_reducible apply le_size_alloc | with_reducible apply le_size_drewN | with_reducible apply le_size_drew | with_reducible apply le_size_setCell | refine Nat.le_trans ?_ (Below.size (by assumption))))); (omega); rintro e w2 ⟨A2, c2, rfl, o2, hb2⟩)
      | (go_at_call 61; (with_reducible refine (CloneI_any Aa ca xs _ ?_ ?_).mono ?_); (exact M1.out.a.ext (by repeat' (first | with_reducible exact Below.refl _ _ | with_reducible assumption | with_reducible apply Below.drew | with_reducible apply below_drewN | with_reducible apply Below.alloc | with_reducible apply Below.setCell | (with_reducible refine Below.trans ?_ (Below.mono (by assumption) ?_)) | (simp; done) | (simp; omega) | omega | with_reducible apply le_size_alloc | with_reducible apply le_size_drewN | with_reducible apply le_size_drew | with_reducible apply le_size_setCell | refine Nat.le_trans ?_ (Below.size (by assumption))))); (omega); rintro e w3 ⟨A3, c3, rfl, o3, hb3⟩))
  go_wp2_with fail
  refine wp_loop_rounds 3 ?_
  rw [rounds_succ]
  have hps : PS (w3.alloc (.cells #[.slice A2 ys.length c2] 88)) w.heap.size w3.heap.size (some ⟨w1.heap.size, 0, none⟩) (ys.length + xs.length) A2 c2 A3 c3 [] ys xs := by
    have bk := (Blk.drew_ (Blk.new_ (w := w1) rfl rfl)).below_ hb2 (by simp)
    have y1 : w1.heap.size < w2.heap.size := by have := hb2.size; simp at this; omega
    have y2 : w2.heap.size ≤ w3.heap.size := hb3.size
    have ho : Own w2 w.heap.size 3 (Value.int .i64) (.slice (some ⟨w1.heap.size, 0, none⟩) ([] : List Int).length (ys.length + xs.length)) [] := by
      have o := Own.of_blk (base := w.heap.size) (mk := Value.int .i64) (xs := []) bk (by omega) (by simp) (by rw [size_madeCells]; unfold maxLen; omega) (by simp)
      rw [size_madeCells] at o
      exact o
    have hbn : Below w3.heap.size w3 (w3.alloc (.cells #[.slice A2 ys.length c2] 88)) := (by repeat' (first | with_reducible exact Below.refl _ _ | with_reducible assumption | with_reducible apply Below.drew | with_reducible apply below_drewN | with_reducible apply Below.alloc | with_reducible apply Below.setCell | (with_reducible refine Below.trans ?_ (Below.mono (by assumption) ?_)) | (simp; done) | (simp; omega) | omega | with_reducible apply le_size_alloc | with_reducible apply le_size_drewN | with_reducible apply le_size_drew | with_reducible apply le_size_setCell | refine Nat.le_trans ?_ (Below.size (by assumption))))
    refine ⟨(ho.below hb3).below hbn, ((o2.below hb3).below hbn).base_ (by simp; omega), (o3.below hbn).base_ (by omega), fun g e e2 => ?_, fun g e e2 => ?_, fun g e e2 => ?_, Blk.new_ rfl rfl, fun e => ?_, fun e => ?_, fun e => ?_⟩
    · have := (o2.block g e2).1; simp at e this; omega
    · have := (o3.block g e2).1; simp at e; omega
    · have h1 := (o2.block g e).2; have h2 := (o3.block g e2).1; omega
    · simp at e; omega
    · have := (o2.block _ e).2; omega
    · have := (o3.block _ e).2; omega
  have hz3 : w.heap.size ≤ w3.heap.size := by have a1 := hb2.size; have a2 := hb3.size; simp at a1; omega
  have HP0 := Lib.hid hps
  clear hps
  go_wp2_with fail
  -- BEGIN loops
  go_loopw [5] (fun v wr => ∃ A1 c1 A2 c2 ds ls, v = .slice A1 ds.length c1 ∧ PS wr w.heap.size w3.heap.size A1 c1 A2 c2 A3 c3 ds ls xs ∧ Hid (ds ++ ls.reverse = ([] : List Int) ++ ys.reverse) ∧ Below w.heap.size w wr) (fun v _ => (([] : List Int) ++ ys.reverse).length - lenOf v)
  case atStart => exact ⟨_, _, _, _, [], ys, rfl, HP0.out, by simp [Hid], (by repeat' (first | with_reducible exact Below.refl _ _ | with_reducible assumption | with_reducible apply Below.drew | with_reducible apply below_drewN | with_reducible apply Below.alloc | with_reducible apply Below.setCell | (with_reducible refine Below.trans ?_ (Below.mono (by assumption) ?_)) | (simp; done) | (simp; omega) | omega | with_reducible apply le_size_alloc | with_reducible apply le_size_drewN | with_reducible apply le_size_drew | with_reducible apply le_size_setCell | refine Nat.le_trans ?_ (Below.size (by assumption))))⟩
  case round =>
    obtain ⟨A1, c1, A2, c2, ds, ls, rfl, ps, HL, hbw⟩ := hrel
    have hlen2 : ds.length + ls.length = (([] : List Int) ++ ys.reverse).length := by have := congrArg List.length HL.out; simpa using this
    have hlen3 : (([] : List Int) ++ ys.reverse).length ≤ ys.length + xs.length := by simp
    have hzw : w.heap.size ≤ wr.heap.size := hbw.size
    by_cases hl : 0 < ls.length
    · have q := (ps.blk.cell_ 0).trans (by simp : _ = some (.slice A2 ls.length c2))
      have HPS := Lib.hid ps
      have HL3 := Lib.hid hlen2
      have hlen4 : ds.length + ls.length ≤ 1000 := by omega
      clear ps hlen2
      go_wp2_with fail
      refine (pop_any _ 0 w.heap.size A2 c2 ls _ q (HPS.out.blk.frozen_ 0) HPS.out.l HPS.out.f2 hl (by omega)).mono ?_
      rintro e w4 ⟨A', c', w5, rfl, hw4, hg, ho, hlb⟩
      have ps2 : PS w4 w.heap.size w3.heap.size A1 c1 A' c' A3 c3 ds (ls.eraseIdx (ls.length - 1)) xs := by rw [hw4]; exact HPS.out.pop hg ho hlb
      have hb4 : Below w.heap.size w w4 := by
        rw [hw4]
        exact (hbw.grown hg (by omega) (fun k hk => (HPS.out.l.block k hk).1)).setCell (by show w.heap.size ≤ w3.heap.size; first | omega | (have := hbw.size; omega)) _
      have hz4 : w.heap.size ≤ w4.heap.size := hb4.size
      have hrev := erase_last' hl
      have hle : (ls.eraseIdx (ls.length - 1)).length = ls.length - 1 := List.length_eraseIdx_of_lt (by omega)
      clear hw4 hg ho hlb q
      obtain ⟨x, hx⟩ : ∃ x, ls.getD (ls.length - 1) 0 = x := ⟨_, rfl⟩
      obtain ⟨lt, hlt⟩ : ∃ lt, ls.eraseIdx (ls.length - 1) = lt := ⟨_, rfl⟩
      rw [hx]
      rw [hx, hlt] at hrev
      rw [hlt] at ps2 hle
      have HL2 : Hid ((ds ++ [x]) ++ lt.reverse = ([] : List Int) ++ ys.reverse) := by have := HL.out; rw [hrev] at this; show _ = _; rw [← this]; simp
      clear hx hlt hrev hle
      have hsf : Sl (w4.alloc (.cells #[.int .i64 x] 3)) (Value.int .i64) (some ⟨w4.heap.size, 0, none⟩) [x] := Sl.of_lit (t := 3) (Blk.new_ rfl rfl)
      have ps3 := ps2.ext (w1 := w4.alloc (.cells #[.int .i64 x] 3)) (by repeat' (first | with_reducible exact Below.refl _ _ | with_reducible assumption | with_reducible apply Below.drew | with_reducible apply below_drewN | with_reducible apply Below.alloc | with_reducible apply Below.setCell | (with_reducible refine Below.trans ?_ (Below.mono (by assumption) ?_)) | (simp; done) | (simp; omega) | omega | with_reducible apply le_size_alloc | with_reducible apply le_size_drewN | with_reducible apply le_size_drew | with_reducible apply le_size_setCell | refine Nat.le_trans ?_ (Below.size (by assumption))))
      have HP3 := Lib.hid ps3; have HSF := Lib.hid hsf
      clear ps2 ps3 hsf
      go_wp2_with (at_builtin; refine wpList_appS (mk := Value.int .i64) _ rfl (.tmp 34) (.tmp 36) _ rfl 3 i0 _ 8 Try.underlying22 hi0 hz0 hz1 hz2 rfl w.heap.size A1 c1 ds rfl HP3.out.d (some ⟨w4.heap.size, 0, none⟩) 1 [x] rfl HSF.out (int_one [x]) (by simp; omega) (by simp; omega) (by simp; omega) ?_; intro A5 c5 w6 ho5 hg5 hl5; have HP5 := Lib.hid (HP3.out.app hg5 ho5 hl5); have HB5 : Hid (Below w.heap.size w w6) := (hb4.alloc (by omega) _).grown hg5 (by simp; omega) (fun k hk => (HP3.out.d.block k hk).1); clear ho5 hg5 hl5)
      go_roundw
      case rel => exact ⟨A5, c5, A', c', ds ++ [x], lt, by simp, HP5.out, HL2, HB5.out⟩
      case measure => have := HL3.out; simp only [lenOf]; simp at this ⊢; omega
    · obtain rfl : ls = [] := List.eq_nil_of_length_eq_zero (by omega)
      have q := (ps.blk.cell_ 0).trans (by simp : _ = some (.slice A2 0 c2))
      obtain rfl : ds = ([] : List Int) ++ ys.reverse := by have := HL.out; simpa using this
      have HPS := Lib.hid ps
      clear ps hlen2 HL
      go_wp2_with fail
      rw [rounds_succ]
      have hzo : w.heap.size ≤ wr.heap.size := hbw.size
      obtain ⟨wo, rfl⟩ : ∃ wo : World, wo = wr := ⟨_, rfl⟩
      rw [List.nil_append] at HPS
      go_wp2_with fail
      go_loopw [5] (fun v wr => ∃ A1 c1 A2 c2 ds ls, v = .slice A1 ds.length c1 ∧ PS wr w.heap.size wo.heap.size A1 c1 A2 c2 none 0 ds ls ([] : List Int) ∧ Hid (ds ++ ls.reverse = ys.reverse ++ xs.reverse) ∧ Below w.heap.size w wr) (fun v _ => (ys.reverse ++ xs.reverse).length - lenOf v)
      case atStart => exact ⟨_, _, _, _, _, _, rfl, HPS.out.next, rfl, hbw.alloc (by omega) _⟩
      case round =>
        obtain ⟨A1, c1, A2, c2, ds, ls, rfl, ps, HL, hbw⟩ := hrel
        have hlen2 : ds.length + ls.length = (ys.reverse ++ xs.reverse).length := by have := congrArg List.length HL.out; simpa using this
        have hlen3 : (ys.reverse ++ xs.reverse).length ≤ ys.length + xs.length := by simp
        have hzw : w.heap.size ≤ wr.heap.size := hbw.size
        by_cases hl : 0 < ls.length
        · have q := (ps.blk.cell_ 0).trans (by simp : _ = some (.slice A2 ls.length c2))
          have HPS := Lib.hid ps
          have HL3 := Lib.hid hlen2
          have hlen4 : ds.length + ls.length ≤ 1000 := by omega
          clear ps hlen2
          go_wp2_with fail
          refine (pop_any _ 0 w.heap.size A2 c2 ls _ q (HPS.out.blk.frozen_ 0) HPS.out.l HPS.out.f2 hl (by omega)).mono ?_
          rintro e w4 ⟨A', c', w5, rfl, hw4, hg, ho, hlb⟩
          have ps2 : PS w4 w.heap.size wo.heap.size A1 c1 A' c' none 0 ds (ls.eraseIdx (ls.length - 1)) ([] : List Int) := by rw [hw4]; exact HPS.out.pop hg ho hlb
          have hb4 : Below w.heap.size w w4 := by
            rw [hw4]
            exact (hbw.grown hg (by omega) (fun k hk => (HPS.out.l.block k hk).1)).setCell (by show w.heap.size ≤ wo.heap.size; first | omega | (have := hbw.size; omega)) _
          have hz4 : w.heap.size ≤ w4.heap.size := hb4.size
          have hrev := erase_last' hl
          have hle : (ls.eraseIdx (ls.length - 1)).length = ls.length - 1 := List.length_eraseIdx_of_lt (by omega)
          clear hw4 hg ho hlb q
          obtain ⟨x, hx⟩ : ∃ x, ls.getD (ls.length - 1) 0 = x := ⟨_, rfl⟩
          obtain ⟨lt, hlt⟩ : ∃ lt, ls.eraseIdx (ls.length - 1) = lt := ⟨_, rfl⟩
          rw [hx]
          rw [hx, hlt] at hrev
          rw [hlt] at ps2 hle
          have HL2 : Hid ((ds ++ [x]) ++ lt.reverse = ys.reverse ++ xs.reverse) := by have := HL.out; rw [hrev] at this; show _ = _; rw [← this]; simp
          clear hx hlt hrev hle
          have hsf : Sl (w4.alloc (.cells #[.int .i64 x] 3)) (Value.int .i64) (some ⟨w4.heap.size, 0, none⟩) [x] := Sl.of_lit (t := 3) (Blk.new_ rfl rfl)
          have ps3 := ps2.ext (w1 := w4.alloc (.cells #[.int .i64 x] 3)) (by repeat' (first | with_reducible exact Below.refl _ _ | with_reducible assumption | with_reducible apply Below.drew | with_reducible apply below_drewN | with_reducible apply Below.alloc | with_reducible apply Below.setCell | (with_reducible refine Below.trans ?_ (Below.mono (by assumption) ?_)) | (simp; done) | (simp; omega) | omega | with_reducible apply le_size_alloc | with_reducible apply le_size_drewN | with_reducible apply le_size_drew | with_reducible apply le_size_setCell | refine Nat.le_trans ?_ (Below.size (by assumption))))
          have HP3 := Lib.hid ps3; have HSF := Lib.hid hsf
          clear ps2 ps3 hsf
          go_wp2_with (at_builtin; refine wpList_appS (mk := Value.int .i64) _ rfl (.tmp 34) (.tmp 36) _ rfl 3 i0 _ 8 Try.underlying22 hi0 hz0 hz1 hz2 rfl w.heap.size A1 c1 ds rfl HP3.out.d (some ⟨w4.heap.size, 0, none⟩) 1 [x] rfl HSF.out (int_one [x]) (by simp; omega) (by simp; omega) (by simp; omega) ?_; intro A5 c5 w6 ho5 hg5 hl5; have HP5 := Lib.hid (HP3.out.app hg5 ho5 hl5); have HB5 : Hid (Below w.heap.size w w6) := (hb4.alloc (by omega) _).grown hg5 (by simp; omega) (fun k hk => (HP3.out.d.block k hk).1); clear ho5 hg5 hl5)
          go_roundw
          case rel => exact ⟨A5, c5, A', c', ds ++ [x], lt, by simp, HP5.out, HL2, HB5.out⟩
          case measure => have := HL3.out; simp only [lenOf]; simp at this ⊢; omega
        · obtain rfl : ls = [] := List.eq_nil_of_length_eq_zero (by omega)
          have q := (ps.blk.cell_ 0).trans (by simp : _ = some (.slice A2 0 c2))
          obtain rfl : ds = ys.reverse ++ xs.reverse := by have := HL.out; simpa using this
          have HPS := Lib.hid ps
          clear ps hlen2 HL
          go_wp2_with fail
          rw [rounds_succ]
          go_wp2
          go_ret2
          exact ⟨_, _, rfl, HPS.out.d, hbw⟩
  -- END loops

set_option maxHeartbeats 400000 in
theorem Last_bad (Aa Ai Ar : Option Addr) (ca ci cr : Nat) (xs ys : List Int) (rs : List Bool) (z : Int) (w : World) (hm : InMem w Aa Ai Ar xs ys rs) (hc : lruChk xs ys rs = z) (hz : z ≠ 0) :
    Calls Try.prog 46 #[.agg #[.slice Aa xs.length ca, .slice Ai ys.length ci, .slice Ar rs.length cr]] w fun e w' => e = .returned (.tuple #[.int .i64 0, .int .i64 z]) ∧ Below w.heap.size w w' := by
  have HM := Lib.hid hm; have HC := Lib.hid hc; have HZ := Lib.hid hz
  have hne : (z != 0) = true := by simpa using hz
  clear hm hc hz
  go_enter Try.func46, Try.ntmps46
  go_wp2_with fail
  refine (Order_bad _ _ _ _ _ _ _ _ _ _ _ (HM.out.ext (by repeat' (first | with_reducible exact Below.refl _ _ | with_reducible assumption | with_reducible apply Below.drew | with_reducible apply below_drewN | with_reducible apply Below.alloc | with_reducible apply Below.setCell | (with_reducible refine Below.trans ?_ (Below.mono (by assumption) ?_)) | (simp; done) | (simp; omega) | omega | with_reducible apply le_size_alloc | with_reducible apply le_size_drewN | with_reducible apply le_size_drew | with_reducible apply le_size_setCell | refine Nat.le_trans ?_ (Below.size (by assumption))))) HC.out HZ.out).mono ?_
  rintro e w1 ⟨rfl, hb1⟩
  go_wp2
  go_ret2
  exact ⟨rfl, (by repeat' (first | with_reducible exact Below.refl _ _ | with_reducible assumption | with_reducible apply Below.drew | with_reducible apply below_drewN | with_reducible apply Below.alloc | with_reducible apply Below.setCell | (with_reducible refine Below.trans ?_ (Below.mono (by assumption) ?_)) | (simp; done) | (simp; omega) | omega | with_reducible apply le_size_alloc | with_reducible apply le_size_drewN | with_reducible apply le_size_drew | with_reducible apply le_size_setCell | refine Nat.le_trans ?_ (Below.size (by assumption))))⟩

/-- The frame that goes first, or the error. -/
def lastR (os : List Int) : Value := match os with
  | [] => .tuple #[.int .i64 0, .int .i64 6]
  | x :: _ => .tuple #[.int .i64 x, .int .i64 0]

set_option maxHeartbeats 400000 in
theorem Last_ok (Aa Ai Ar : Option Addr) (ca ci cr : Nat) (xs ys : List Int) (rs : List Bool) (w : World) (hm : InMem w Aa Ai Ar xs ys rs) (hc : lruChk xs ys rs = 0) :
    Calls Try.prog 46 #[.agg #[.slice Aa xs.length ca, .slice Ai ys.length ci, .slice Ar rs.length cr]] w fun e w' => e = .returned (lastR (ys.reverse ++ xs.reverse)) ∧ Below w.heap.size w w' := by
  have HM := Lib.hid hm; have HC := Lib.hid hc
  have hv := valid_of_chk hc
  have hlen := hv.len
  have hhi := hv.hi
  have hol : (ys.reverse ++ xs.reverse).length ≤ 256 := by simp; omega
  clear hm hc hv
  generalize hos : ys.reverse ++ xs.reverse = os
  rw [hos] at hol
  have HOS := Lib.hid hos
  clear hos
  cases os with
  | nil =>
    go_enter Try.func46, Try.ntmps46
    go_wp2_with fail
    refine (Order_ok _ _ _ _ _ _ _ _ _ _ (HM.out.ext (by repeat' (first | with_reducible exact Below.refl _ _ | with_reducible assumption | with_reducible apply Below.drew | with_reducible apply below_drewN | with_reducible apply Below.alloc | with_reducible apply Below.setCell | (with_reducible refine Below.trans ?_ (Below.mono (by assumption) ?_)) | (simp; done) | (simp; omega) | omega | with_reducible apply le_size_alloc | with_reducible apply le_size_drewN | with_reducible apply le_size_drew | with_reducible apply le_size_setCell | refine Nat.le_trans ?_ (Below.size (by assumption))))) HC.out).mono ?_
    rw [HOS.out]
    rintro e w1 ⟨A, c, rfl, ho, hb1⟩
    clear ho
    go_wp2
    go_ret2
    exact ⟨rfl, (by repeat' (first | with_reducible exact Below.refl _ _ | with_reducible assumption | with_reducible apply Below.drew | with_reducible apply below_drewN | with_reducible apply Below.alloc | with_reducible apply Below.setCell | (with_reducible refine Below.trans ?_ (Below.mono (by assumption) ?_)) | (simp; done) | (simp; omega) | omega | with_reducible apply le_size_alloc | with_reducible apply le_size_drewN | with_reducible apply le_size_drew | with_reducible apply le_size_setCell | refine Nat.le_trans ?_ (Below.size (by assumption))))⟩
  | cons x t =>
    have hne : (((x :: t).length : Int) == 0) = false := by simp; omega
    have hne' : ((t.length : Int) + 1 == 0) = false := by simp; omega
    go_enter Try.func46, Try.ntmps46
    go_wp2_with fail
    refine (Order_ok _ _ _ _ _ _ _ _ _ _ (HM.out.ext (by repeat' (first | with_reducible exact Below.refl _ _ | with_reducible assumption | with_reducible apply Below.drew | with_reducible apply below_drewN | with_reducible apply Below.alloc | with_reducible apply Below.setCell | (with_reducible refine Below.trans ?_ (Below.mono (by assumption) ?_)) | (simp; done) | (simp; omega) | omega | with_reducible apply le_size_alloc | with_reducible apply le_size_drewN | with_reducible apply le_size_drew | with_reducible apply le_size_setCell | refine Nat.le_trans ?_ (Below.size (by assumption))))) HC.out).mono ?_
    rw [HOS.out]
    rintro e w1 ⟨A, c, rfl, ho, hb1⟩
    obtain ⟨b, off, y, hA, hbl, hx, hc0⟩ := ho.sl_.at_ (k := 0) (by simp)
    simp at hx
    subst hx hA
    rw [Nat.add_zero] at hc0
    have hp : (0 : Int) < (t.length : Int) + 1 := by omega
    clear ho
    go_wp2
    go_ret2
    exact ⟨rfl, (by repeat' (first | with_reducible exact Below.refl _ _ | with_reducible assumption | with_reducible apply Below.drew | with_reducible apply below_drewN | with_reducible apply Below.alloc | with_reducible apply Below.setCell | (with_reducible refine Below.trans ?_ (Below.mono (by assumption) ?_)) | (simp; done) | (simp; omega) | omega | with_reducible apply le_size_alloc | with_reducible apply le_size_drewN | with_reducible apply le_size_drew | with_reducible apply le_size_setCell | refine Nat.le_trans ?_ (Below.size (by assumption))))⟩

end Go.Proofs.Ytiobbdfkimpfbaa
