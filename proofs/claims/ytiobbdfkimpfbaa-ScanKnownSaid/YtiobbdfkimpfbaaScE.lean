/- Contracts of package scan: a step. -/
import Derived.Test.YtiobbdfkimpfbaaScD
import Derived.Laws.EntriesVeiled
namespace Go.Proofs.Ytiobbdfkimpfbaa
open Go.RowKit Go.Maps

/-- A background step: what it was, its frame, the lists behind it. -/
def stepS (T : Int) (xs ys : List Int) (rs : List Bool) : Int × Int × List Int × List Int × List Bool :=
  if 0 < xs.length ∧ (ys.length : Int) < T then (1, lastF xs, dX xs ys, dY xs ys, rs.set (lastF xs).toNat false)
  else if ys.length = 0 then (0, -1, xs, ys, rs)
  else if lastB ys rs = true then (2, lastF ys, pX xs ys, pY xs ys, rs.set (lastF ys).toNat false)
  else (3, lastF ys, xs, ys, rs)
/-- The frames that were moved. -/
def mvS (what f : Int) (mv : List Int) : List Int := if what = 1 ∨ what = 2 then f :: mv else mv

theorem demote_no (b : Nat) (A1 A2 A3 : Option Addr) (c1 c2 c3 : Nat) (xs ys : List Int) (rs : List Bool) (T F : Int) (mv : List Int) (w : World) (h : WK w b A1 A2 A3 c1 c2 c3 xs ys rs T F mv) (h0 : ¬ (0 < xs.length ∧ (ys.length : Int) < T)) :
    Calls Try.prog 66 #[.pointer (some ⟨b, 0, none⟩)] w fun e w' => e = .returned (.bool false) ∧ Below w.heap.size w w' := by
  by_cases h1 : xs.length = 0
  · exact demote_none b A1 A2 A3 c1 c2 c3 xs ys rs T F mv w h h1
  · exact demote_full b A1 A2 A3 c1 c2 c3 xs ys rs T F mv w h (by omega) (by omega)
theorem promote_not (b : Nat) (A1 A2 A3 : Option Addr) (c1 c2 c3 : Nat) (xs ys : List Int) (rs : List Bool) (T F : Int) (mv : List Int) (w : World) (h : WK w b A1 A2 A3 c1 c2 c3 xs ys rs T F mv) (hc : lruChk xs ys rs = 0) (h0 : ys.length = 0 ∨ lastB ys rs = false) :
    Calls Try.prog 67 #[.pointer (some ⟨b, 0, none⟩)] w fun e w' => e = .returned (.bool false) ∧ Below w.heap.size w w' := by
  by_cases h1 : ys.length = 0
  · exact promote_none b A1 A2 A3 c1 c2 c3 xs ys rs T F mv w h h1
  · exact promote_no b A1 A2 A3 c1 c2 c3 xs ys rs T F mv w h hc (by omega) (h0.resolve_left h1)

theorem sidx0 (x y z : Value) (w : World) : (Instr.index 94 (.agg #[x, y, z]) (.int .i64 0)).run Try.prog w = .ok x w := by kernel_rfl
theorem sidx1 (x y z : Value) (w : World) : (Instr.index 94 (.agg #[x, y, z]) (.int .i64 1)).run Try.prog w = .ok y w := by kernel_rfl
theorem sidx2 (x y z : Value) (w : World) : (Instr.index 94 (.agg #[x, y, z]) (.int .i64 2)).run Try.prog w = .ok z w := by kernel_rfl

/-- What a step leaves. -/
def StPost (b : Nat) (A1 A2 A3 : Option Addr) (T : Int) (mv : List Int) (R : Int × Int × List Int × List Int × List Bool) (w : World) (e : Ending) (w' : World) : Prop :=
  e = .returned (.int .i64 R.1) ∧ ∃ B1 B2 B3 d1 d2 d3, WK w' b B1 B2 B3 d1 d2 d3 R.2.2.1 R.2.2.2.1 R.2.2.2.2 T R.2.1 (mvS R.1 R.2.1 mv) ∧ ((B1 = A1 ∧ B2 = A2 ∧ B3 = A3 ∧ R.1 ≠ 1 ∧ R.1 ≠ 2) ∨ NewL w.heap.size B1 B2 B3) ∧ Aside (fun k => k = b) w w'

set_option maxRecDepth 100000 in
set_option maxHeartbeats 4000000 in
theorem step_dem (b : Nat) (A1 A2 A3 : Option Addr) (c1 c2 c3 : Nat) (xs ys : List Int) (rs : List Bool) (T F : Int) (mv : List Int) (w : World) (h : WK w b A1 A2 A3 c1 c2 c3 xs ys rs T F mv) (hc : lruChk xs ys rs = 0) (h0 : 0 < xs.length ∧ (ys.length : Int) < T) :
    Calls Try.prog 40 #[.pointer (some ⟨b, 0, none⟩)] w (StPost b A1 A2 A3 T mv (stepS T xs ys rs) w) := by
  have hR : Hid (stepS T xs ys rs = (1, lastF xs, dX xs ys, dY xs ys, rs.set (lastF xs).toNat false)) := by show _ = _; unfold stepS; rw [if_pos h0]
  have H := Lib.hid h
  have hlt := h.blk.lt
  have hw : Below w.heap.size w (w.alloc (.cells #[.func (.func 66) #[.pointer (some ⟨b, 0, none⟩)] #[], .func (.func 67) #[.pointer (some ⟨b, 0, none⟩)] #[], .func (.func 68) #[.pointer (some ⟨b, 0, none⟩)] #[]] 94)) := (Below.refl _ _).alloc (Nat.le_refl _) _
  obtain ⟨V, hV⟩ : ∃ V, w.alloc (.cells #[.func (.func 66) #[.pointer (some ⟨b, 0, none⟩)] #[], .func (.func 67) #[.pointer (some ⟨b, 0, none⟩)] #[], .func (.func 68) #[.pointer (some ⟨b, 0, none⟩)] #[]] 94) = V := ⟨_, rfl⟩
  rw [hV] at hw
  have HW := Lib.hid hw; have HV := Lib.hid hV
  have HK := Lib.hid (h.below hw)
  have i0' := sidx0; have i1' := sidx1; have i2' := sidx2
  rw [hR.out]
  clear h hw hV
  go_enter Try.func40, Try.ntmps40
  go_wp2_with fail
  refine wp_loop_rounds 1 ?_
  rw [rounds_succ]
  go_wp2_with fail
  rw [HV.out]
  refine (demote_yes b A1 A2 A3 c1 c2 c3 xs ys rs T F mv _ HK.out hc h0.1 h0.2).mono ?_
  rintro e x9 ⟨rfl, B1, B2, B3, d1, d2, d3, k9, n9, a9⟩
  go_wp2_with fail
  go_ret
  exact ⟨rfl, B1, B2, B3, d1, d2, d3, k9, .inr ⟨fun g e => Nat.le_trans HW.out.size (n9.a g e), fun g e => Nat.le_trans HW.out.size (n9.i g e), fun g e => Nat.le_trans HW.out.size (n9.r g e)⟩, (Aside.of_below HW.out).trans a9⟩

set_option maxRecDepth 100000 in
set_option maxHeartbeats 4000000 in
theorem step_pro (b : Nat) (A1 A2 A3 : Option Addr) (c1 c2 c3 : Nat) (xs ys : List Int) (rs : List Bool) (T F : Int) (mv : List Int) (w : World) (h : WK w b A1 A2 A3 c1 c2 c3 xs ys rs T F mv) (hc : lruChk xs ys rs = 0) (h0 : ¬ (0 < xs.length ∧ (ys.length : Int) < T)) (h1 : 0 < ys.length) (h2 : lastB ys rs = true) :
    Calls Try.prog 40 #[.pointer (some ⟨b, 0, none⟩)] w (StPost b A1 A2 A3 T mv (stepS T xs ys rs) w) := by
  have hR : Hid (stepS T xs ys rs = (2, lastF ys, pX xs ys, pY xs ys, rs.set (lastF ys).toNat false)) := by show _ = _; unfold stepS; rw [if_neg h0, if_neg (by omega), if_pos h2]
  have H := Lib.hid h
  have hlt := h.blk.lt
  have hw : Below w.heap.size w (w.alloc (.cells #[.func (.func 66) #[.pointer (some ⟨b, 0, none⟩)] #[], .func (.func 67) #[.pointer (some ⟨b, 0, none⟩)] #[], .func (.func 68) #[.pointer (some ⟨b, 0, none⟩)] #[]] 94)) := (Below.refl _ _).alloc (Nat.le_refl _) _
  obtain ⟨V, hV⟩ : ∃ V, w.alloc (.cells #[.func (.func 66) #[.pointer (some ⟨b, 0, none⟩)] #[], .func (.func 67) #[.pointer (some ⟨b, 0, none⟩)] #[], .func (.func 68) #[.pointer (some ⟨b, 0, none⟩)] #[]] 94) = V := ⟨_, rfl⟩
  rw [hV] at hw
  have HW := Lib.hid hw; have HV := Lib.hid hV
  have HK := Lib.hid (h.below hw)
  have i0' := sidx0; have i1' := sidx1; have i2' := sidx2
  rw [hR.out]
  clear h hw hV
  go_enter Try.func40, Try.ntmps40
  go_wp2_with fail
  refine wp_loop_rounds 2 ?_
  rw [rounds_succ]
  go_wp2_with fail
  rw [HV.out]
  refine (demote_no b A1 A2 A3 c1 c2 c3 xs ys rs T F mv _ HK.out h0).mono ?_
  rintro e x1 ⟨rfl, hx1⟩
  have HK1 := Lib.hid (HK.out.below hx1)
  have HW1 := Lib.hid (HW.out.trans (hx1.mono HW.out.size))
  clear hx1 HK HW
  obtain ⟨HK, HW⟩ := And.intro HK1 HW1
  clear HK1 HW1
  go_wp2_with fail
  rw [rounds_succ]
  go_wp2_with fail
  refine (promote_yes b A1 A2 A3 c1 c2 c3 xs ys rs T F mv _ HK.out hc h1 h2).mono ?_
  rintro e x9 ⟨rfl, B1, B2, B3, d1, d2, d3, k9, n9, a9⟩
  go_wp2_with fail
  go_ret
  exact ⟨rfl, B1, B2, B3, d1, d2, d3, k9, .inr ⟨fun g e => Nat.le_trans HW.out.size (n9.a g e), fun g e => Nat.le_trans HW.out.size (n9.i g e), fun g e => Nat.le_trans HW.out.size (n9.r g e)⟩, (Aside.of_below HW.out).trans a9⟩

set_option maxRecDepth 100000 in
set_option maxHeartbeats 4000000 in
theorem step_fnd (b : Nat) (A1 A2 A3 : Option Addr) (c1 c2 c3 : Nat) (xs ys : List Int) (rs : List Bool) (T F : Int) (mv : List Int) (w : World) (h : WK w b A1 A2 A3 c1 c2 c3 xs ys rs T F mv) (hc : lruChk xs ys rs = 0) (h0 : ¬ (0 < xs.length ∧ (ys.length : Int) < T)) (h1 : 0 < ys.length) (h2 : lastB ys rs = false) :
    Calls Try.prog 40 #[.pointer (some ⟨b, 0, none⟩)] w (StPost b A1 A2 A3 T mv (stepS T xs ys rs) w) := by
  have hR : Hid (stepS T xs ys rs = (3, lastF ys, xs, ys, rs)) := by show _ = _; unfold stepS; rw [if_neg h0, if_neg (by omega), if_neg (by rw [h2]; simp)]
  have H := Lib.hid h
  have hlt := h.blk.lt
  have hw : Below w.heap.size w (w.alloc (.cells #[.func (.func 66) #[.pointer (some ⟨b, 0, none⟩)] #[], .func (.func 67) #[.pointer (some ⟨b, 0, none⟩)] #[], .func (.func 68) #[.pointer (some ⟨b, 0, none⟩)] #[]] 94)) := (Below.refl _ _).alloc (Nat.le_refl _) _
  obtain ⟨V, hV⟩ : ∃ V, w.alloc (.cells #[.func (.func 66) #[.pointer (some ⟨b, 0, none⟩)] #[], .func (.func 67) #[.pointer (some ⟨b, 0, none⟩)] #[], .func (.func 68) #[.pointer (some ⟨b, 0, none⟩)] #[]] 94) = V := ⟨_, rfl⟩
  rw [hV] at hw
  have HW := Lib.hid hw; have HV := Lib.hid hV
  have HK := Lib.hid (h.below hw)
  have i0' := sidx0; have i1' := sidx1; have i2' := sidx2
  rw [hR.out]
  clear h hw hV
  go_enter Try.func40, Try.ntmps40
  go_wp2_with fail
  refine wp_loop_rounds 3 ?_
  rw [rounds_succ]
  go_wp2_with fail
  rw [HV.out]
  refine (demote_no b A1 A2 A3 c1 c2 c3 xs ys rs T F mv _ HK.out h0).mono ?_
  rintro e x1 ⟨rfl, hx1⟩
  have HK1 := Lib.hid (HK.out.below hx1)
  have HW1 := Lib.hid (HW.out.trans (hx1.mono HW.out.size))
  clear hx1 HK HW
  obtain ⟨HK, HW⟩ := And.intro HK1 HW1
  clear HK1 HW1
  go_wp2_with fail
  rw [rounds_succ]
  go_wp2_with fail
  refine (promote_not b A1 A2 A3 c1 c2 c3 xs ys rs T F mv _ HK.out hc (.inr h2)).mono ?_
  rintro e x2 ⟨rfl, hx2⟩
  have HK2 := Lib.hid (HK.out.below hx2)
  have HW2 := Lib.hid (HW.out.trans (hx2.mono HW.out.size))
  clear hx2 HK HW
  obtain ⟨HK, HW⟩ := And.intro HK2 HW2
  clear HK2 HW2
  go_wp2_with fail
  rw [rounds_succ]
  go_wp2_with fail
  refine (find_yes b A1 A2 A3 c1 c2 c3 xs ys rs T F mv _ HK.out h1).mono ?_
  rintro e x9 ⟨rfl, k9, a9⟩
  go_wp2_with fail
  go_ret
  exact ⟨rfl, A1, A2, A3, c1, c2, c3, k9, .inl ⟨rfl, rfl, rfl, by simp, by simp⟩, (Aside.of_below HW.out).trans a9⟩

set_option maxRecDepth 100000 in
set_option maxHeartbeats 4000000 in
theorem step_non (b : Nat) (A1 A2 A3 : Option Addr) (c1 c2 c3 : Nat) (xs ys : List Int) (rs : List Bool) (T F : Int) (mv : List Int) (w : World) (h : WK w b A1 A2 A3 c1 c2 c3 xs ys rs T F mv) (hc : lruChk xs ys rs = 0) (h0 : ¬ (0 < xs.length ∧ (ys.length : Int) < T)) (h1 : ys.length = 0) :
    Calls Try.prog 40 #[.pointer (some ⟨b, 0, none⟩)] w (StPost b A1 A2 A3 T mv (stepS T xs ys rs) w) := by
  have hR : Hid (stepS T xs ys rs = (0, -1, xs, ys, rs)) := by show _ = _; unfold stepS; rw [if_neg h0, if_pos h1]
  have H := Lib.hid h
  have hlt := h.blk.lt
  have hw : Below w.heap.size w (w.alloc (.cells #[.func (.func 66) #[.pointer (some ⟨b, 0, none⟩)] #[], .func (.func 67) #[.pointer (some ⟨b, 0, none⟩)] #[], .func (.func 68) #[.pointer (some ⟨b, 0, none⟩)] #[]] 94)) := (Below.refl _ _).alloc (Nat.le_refl _) _
  obtain ⟨V, hV⟩ : ∃ V, w.alloc (.cells #[.func (.func 66) #[.pointer (some ⟨b, 0, none⟩)] #[], .func (.func 67) #[.pointer (some ⟨b, 0, none⟩)] #[], .func (.func 68) #[.pointer (some ⟨b, 0, none⟩)] #[]] 94) = V := ⟨_, rfl⟩
  rw [hV] at hw
  have HW := Lib.hid hw; have HV := Lib.hid hV
  have HK := Lib.hid (h.below hw)
  have i0' := sidx0; have i1' := sidx1; have i2' := sidx2
  rw [hR.out]
  clear h hw hV
  go_enter Try.func40, Try.ntmps40
  go_wp2_with fail
  refine wp_loop_rounds 4 ?_
  rw [rounds_succ]
  go_wp2_with fail
  rw [HV.out]
  refine (demote_no b A1 A2 A3 c1 c2 c3 xs ys rs T F mv _ HK.out h0).mono ?_
  rintro e x1 ⟨rfl, hx1⟩
  have HK1 := Lib.hid (HK.out.below hx1)
  have HW1 := Lib.hid (HW.out.trans (hx1.mono HW.out.size))
  clear hx1 HK HW
  obtain ⟨HK, HW⟩ := And.intro HK1 HW1
  clear HK1 HW1
  go_wp2_with fail
  rw [rounds_succ]
  go_wp2_with fail
  refine (promote_not b A1 A2 A3 c1 c2 c3 xs ys rs T F mv _ HK.out hc (.inl h1)).mono ?_
  rintro e x2 ⟨rfl, hx2⟩
  have HK2 := Lib.hid (HK.out.below hx2)
  have HW2 := Lib.hid (HW.out.trans (hx2.mono HW.out.size))
  clear hx2 HK HW
  obtain ⟨HK, HW⟩ := And.intro HK2 HW2
  clear HK2 HW2
  go_wp2_with fail
  rw [rounds_succ]
  go_wp2_with fail
  refine (find_none b A1 A2 A3 c1 c2 c3 xs ys rs T F mv _ HK.out h1).mono ?_
  rintro e x9 ⟨rfl, hx9⟩
  have HK9 := Lib.hid (HK.out.below hx9)
  have HW9 := Lib.hid (HW.out.trans (hx9.mono HW.out.size))
  have q4 : x9.cell? ⟨b, 4, none⟩ = some (.int .i64 F) := (HK9.out.blk.cell_ 4).trans (by simp)
  have g4 := HK9.out.blk.frozen_ 4
  clear hx9 HK HW
  go_wp2_with fail
  rw [rounds_succ]
  go_wp2_with fail
  go_ret
  refine ⟨rfl, A1, A2, A3, c1, c2, c3, ⟨?_, HK9.out.mem.set_ HK9.out.ne _ _, HK9.out.ne⟩, .inl ⟨rfl, rfl, rfl, by simp, by simp⟩, (Aside.of_below (Z := fun k => k = b) HW9.out).setCell (p := ⟨b, 4, none⟩) (.inr rfl) _⟩
  simpa [mvS] using HK9.out.blk.set_ 4 (.int .i64 (-1))


theorem step_any (b : Nat) (A1 A2 A3 : Option Addr) (c1 c2 c3 : Nat) (xs ys : List Int) (rs : List Bool) (T F : Int) (mv : List Int) (w : World) (h : WK w b A1 A2 A3 c1 c2 c3 xs ys rs T F mv) (hc : lruChk xs ys rs = 0) :
    Calls Try.prog 40 #[.pointer (some ⟨b, 0, none⟩)] w (StPost b A1 A2 A3 T mv (stepS T xs ys rs) w) := by
  by_cases h0 : 0 < xs.length ∧ (ys.length : Int) < T
  · exact step_dem b A1 A2 A3 c1 c2 c3 xs ys rs T F mv w h hc h0
  · by_cases h1 : ys.length = 0
    · exact step_non b A1 A2 A3 c1 c2 c3 xs ys rs T F mv w h hc h0 h1
    · by_cases h2 : lastB ys rs = true
      · exact step_pro b A1 A2 A3 c1 c2 c3 xs ys rs T F mv w h hc h0 (by omega) h2
      · exact step_fnd b A1 A2 A3 c1 c2 c3 xs ys rs T F mv w h hc h0 (by omega) (by simpa using h2)
end Go.Proofs.Ytiobbdfkimpfbaa
