/- RmapKnown: the chapter's examples. Written by gen_rl3.py. -/
import Derived.Test.YtbeddhamnefpiaaRL2
namespace Go.Proofs.Ytbeddhamnefpiaa
set_option linter.unusedSimpArgs false
set_option linter.unusedVariables false
open Go.RowKit Go.Maps

theorem sl3 {w : World} {A : Option Addr} {l : List Int} {x y z : Int} (h : Sl w (.int .i64) A l) (hx : l[4]? = some x) (hy : l[5]? = some y) (hz : l[6]? = some z) :
    ∃ b off, A = some ⟨b, off, none⟩ ∧ b < w.heap.size ∧ w.cell? ⟨b, off + 4, none⟩ = some (.int .i64 x) ∧ w.cell? ⟨b, off + 5, none⟩ = some (.int .i64 y) ∧ w.cell? ⟨b, off + 6, none⟩ = some (.int .i64 z) := by
  obtain ⟨b, off, x', rfl, hb, hx', hc⟩ := h.at_ (List.getElem?_eq_some_iff.1 hx).1
  obtain ⟨b2, off2, y', e2, _, hy', hc2⟩ := h.at_ (List.getElem?_eq_some_iff.1 hy).1
  obtain ⟨b3, off3, z', e3, _, hz', hc3⟩ := h.at_ (List.getElem?_eq_some_iff.1 hz).1
  injection e2 with e2; injection e2 with e2 e2'; subst e2 e2'
  injection e3 with e3; injection e3 with e3 e3'; subst e3 e3'
  rw [hx] at hx'; injection hx' with hx'; subst hx'
  rw [hy] at hy'; injection hy' with hy'; subst hy'
  rw [hz] at hz'; injection hz' with hz'; subst hz'
  exact ⟨b, off, rfl, hb, hc, hc2, hc3⟩

set_option maxRecDepth 100000 in
set_option maxHeartbeats 8000000 in
theorem known_any (w : World) : Calls Try.prog 6 #[] w fun e w' => e = .returned (.bool true) ∧ Below w.heap.size w w' := by
  have h1 : Hid (fndM [(4, 1, 9), (5, 1, 3), (5, 2, 0)] (1, 9) = (4, 0)) := by show _ = _; decide +kernel
  have h2 : Hid (remM [(4, 1, 9), (5, 1, 3), (5, 2, 0)] (1, 3) = ([(4, 1, 9), (5, 2, 0)], 5, 1, 0)) := by show _ = _; decide +kernel
  have h3 : Hid (remM [(4, 1, 9), (5, 2, 0)] (2, 0) = ([(4, 1, 9)], 5, 0, 0)) := by show _ = _; decide +kernel
  have h4 : Hid (movM [(4, 1, 9), (5, 1, 3), (5, 2, 0)] (1, 3) 4 = ([(4, 1, 3), (4, 1, 9), (5, 2, 0)], 1, 0)) := by show _ = _; decide +kernel
  have h5 : Hid (frkM [(4, 1, 9), (5, 1, 3), (5, 2, 0)] 1 3 = ([(4, 1, 9), (4, 3, 9), (5, 1, 3), (5, 2, 0), (5, 3, 3)], 0)) := by show _ = _; decide +kernel
  have h6 : Hid (frkM [(4, 1, 9), (5, 1, 3), (5, 2, 0)] 1 2 = ([], 7)) := by show _ = _; decide +kernel
  have h7 : Hid (frkM [(4, 1, 9), (5, 1, 3), (5, 2, 0)] 1 1 = ([], 2)) := by show _ = _; decide +kernel
  have h8 : Hid (addM [(4, 1, 9), (5, 1, 3), (5, 2, 0)] 6 (1, 3) = ([], 7)) := by show _ = _; decide +kernel
  have h9 : Hid (addM [(4, 1, 9), (5, 1, 3), (5, 2, 0)] 256 (1, 0) = ([], 2)) := by show _ = _; decide +kernel
  have h10 : Hid (remM [(4, 1, 9), (5, 1, 3), (5, 2, 0)] (1, 4) = ([], 0, 0, 6)) := by show _ = _; decide +kernel
  have h11 : Hid (drpM [(4, 1, 9), (5, 1, 3), (5, 2, 0)] 5 = ([(4, 1, 9)], [(1, 3), (2, 0)], 0)) := by show _ = _; decide +kernel
  have g0 : (cnsM [(4, 1, 9), (5, 1, 3), (5, 2, 0)]).2 = 0 := by decide +kernel
  have g1 : (cnsM [(4, 1, 9), (5, 1, 3), (5, 2, 0)]).1.length = 256 := by decide +kernel
  have g4 : (cnsM [(4, 1, 9), (5, 1, 3), (5, 2, 0)]).1[4]? = some 1 := by decide +kernel
  have g5 : (cnsM [(4, 1, 9), (5, 1, 3), (5, 2, 0)]).1[5]? = some 2 := by decide +kernel
  have g6 : (cnsM [(4, 1, 9), (5, 1, 3), (5, 2, 0)]).1[6]? = some 0 := by decide +kernel
  obtain ⟨⟨Lc, zc⟩, hc⟩ : ∃ r, cnsM [(4, 1, 9), (5, 1, 3), (5, 2, 0)] = r := ⟨_, rfl⟩
  rw [hc] at g0 g1 g4 g5 g6
  dsimp only at g0 g1 g4 g5 g6
  subst g0
  have HC := Lib.hid hc
  have G4 := Lib.hid g4; have G5 := Lib.hid g5; have G6 := Lib.hid g6
  clear hc g4 g5 g6
  have B : Hid (Below w.heap.size w w) := Below.refl _ _
  go_enter Try.func6, Try.ntmps6
  go_wp2_with fail
  refine (shown_any _).mono ?_
  rintro e x1 ⟨A0, c0, rfl, hc0, hb⟩
  have b : Below w.heap.size w x1 := (by repeat' (first | with_reducible exact Below.refl _ _ | with_reducible assumption | with_reducible apply Below.drew | with_reducible apply below_drewN | with_reducible apply Below.alloc | with_reducible apply Below.setCell | (with_reducible refine Below.trans ?_ (Below.mono (by assumption) ?_)) | (simp; done) | (simp; omega) | omega | with_reducible apply le_size_alloc | with_reducible apply le_size_drewN | with_reducible apply le_size_drew | with_reducible apply le_size_setCell | refine Nat.le_trans ?_ (Below.size (by assumption))))
  clear hb
  replace B : Hid (Below w.heap.size w x1) := B.out.trans (b.mono B.out.size)
  have C0 : Hid (CR mapE x1 A0 c0 [(4, 1, 9), (5, 1, 3), (5, 2, 0)]) := hc0
  clear hc0
  clear b
  go_wp2_with fail
  refine (lat_any 1 9 _).mono ?_
  rintro e x2 ⟨rfl, hb⟩
  have b : Below x1.heap.size x1 x2 := (by repeat' (first | with_reducible exact Below.refl _ _ | with_reducible assumption | with_reducible apply Below.drew | with_reducible apply below_drewN | with_reducible apply Below.alloc | with_reducible apply Below.setCell | (with_reducible refine Below.trans ?_ (Below.mono (by assumption) ?_)) | (simp; done) | (simp; omega) | omega | with_reducible apply le_size_alloc | with_reducible apply le_size_drewN | with_reducible apply le_size_drew | with_reducible apply le_size_setCell | refine Nat.le_trans ?_ (Below.size (by assumption))))
  clear hb
  replace C0 : Hid (CR mapE x2 A0 c0 [(4, 1, 9), (5, 1, 3), (5, 2, 0)]) := C0.out.ext b
  replace B : Hid (Below w.heap.size w x2) := B.out.trans (b.mono B.out.size)
  clear b
  go_wp2_with fail
  refine (Find_any A0 c0 [(4, 1, 9), (5, 1, 3), (5, 2, 0)] 1 9 _ C0.out.1 (by simp) h1.out).mono ?_
  rintro e x3 ⟨rfl, hb⟩
  have b : Below x2.heap.size x2 x3 := (by repeat' (first | with_reducible exact Below.refl _ _ | with_reducible assumption | with_reducible apply Below.drew | with_reducible apply below_drewN | with_reducible apply Below.alloc | with_reducible apply Below.setCell | (with_reducible refine Below.trans ?_ (Below.mono (by assumption) ?_)) | (simp; done) | (simp; omega) | omega | with_reducible apply le_size_alloc | with_reducible apply le_size_drewN | with_reducible apply le_size_drew | with_reducible apply le_size_setCell | refine Nat.le_trans ?_ (Below.size (by assumption))))
  clear hb
  replace C0 : Hid (CR mapE x3 A0 c0 [(4, 1, 9), (5, 1, 3), (5, 2, 0)]) := C0.out.ext b
  replace B : Hid (Below w.heap.size w x3) := B.out.trans (b.mono B.out.size)
  clear b
  go_wp2_with fail
  refine (Counts_any A0 c0 [(4, 1, 9), (5, 1, 3), (5, 2, 0)] _ C0.out.1 (by simp)).mono ?_
  unfold CnsPost
  rw [HC.out]
  rintro e x4 ⟨A5, c5, rfl, hc5, hb⟩
  have b : Below x3.heap.size x3 x4 := (by repeat' (first | with_reducible exact Below.refl _ _ | with_reducible assumption | with_reducible apply Below.drew | with_reducible apply below_drewN | with_reducible apply Below.alloc | with_reducible apply Below.setCell | (with_reducible refine Below.trans ?_ (Below.mono (by assumption) ?_)) | (simp; done) | (simp; omega) | omega | with_reducible apply le_size_alloc | with_reducible apply le_size_drewN | with_reducible apply le_size_drew | with_reducible apply le_size_setCell | refine Nat.le_trans ?_ (Below.size (by assumption))))
  clear hb
  replace C0 : Hid (CR mapE x4 A0 c0 [(4, 1, 9), (5, 1, 3), (5, 2, 0)]) := C0.out.ext b
  replace B : Hid (Below w.heap.size w x4) := B.out.trans (b.mono B.out.size)
  have C5 : Hid (Sl x4 (.int .i64) A5 Lc) := hc5
  clear hc5
  clear b
  go_wp2_with fail
  refine (lat_any 1 3 _).mono ?_
  rintro e x5 ⟨rfl, hb⟩
  have b : Below x4.heap.size x4 x5 := (by repeat' (first | with_reducible exact Below.refl _ _ | with_reducible assumption | with_reducible apply Below.drew | with_reducible apply below_drewN | with_reducible apply Below.alloc | with_reducible apply Below.setCell | (with_reducible refine Below.trans ?_ (Below.mono (by assumption) ?_)) | (simp; done) | (simp; omega) | omega | with_reducible apply le_size_alloc | with_reducible apply le_size_drewN | with_reducible apply le_size_drew | with_reducible apply le_size_setCell | refine Nat.le_trans ?_ (Below.size (by assumption))))
  clear hb
  replace C0 : Hid (CR mapE x5 A0 c0 [(4, 1, 9), (5, 1, 3), (5, 2, 0)]) := C0.out.ext b
  replace C5 : Hid (Sl x5 (.int .i64) A5 Lc) := C5.out.ext b
  replace B : Hid (Below w.heap.size w x5) := B.out.trans (b.mono B.out.size)
  clear b
  go_wp2_with fail
  refine (Remove_any A0 c0 [(4, 1, 9), (5, 1, 3), (5, 2, 0)] 1 3 _ C0.out.1 (by simp)).mono ?_
  unfold RemPost
  rw [h2.out]
  rintro e x6 ⟨A6, c6, rfl, hc6, hb⟩
  have b : Below x5.heap.size x5 x6 := (by repeat' (first | with_reducible exact Below.refl _ _ | with_reducible assumption | with_reducible apply Below.drew | with_reducible apply below_drewN | with_reducible apply Below.alloc | with_reducible apply Below.setCell | (with_reducible refine Below.trans ?_ (Below.mono (by assumption) ?_)) | (simp; done) | (simp; omega) | omega | with_reducible apply le_size_alloc | with_reducible apply le_size_drewN | with_reducible apply le_size_drew | with_reducible apply le_size_setCell | refine Nat.le_trans ?_ (Below.size (by assumption))))
  clear hb
  replace C0 : Hid (CR mapE x6 A0 c0 [(4, 1, 9), (5, 1, 3), (5, 2, 0)]) := C0.out.ext b
  replace C5 : Hid (Sl x6 (.int .i64) A5 Lc) := C5.out.ext b
  replace B : Hid (Below w.heap.size w x6) := B.out.trans (b.mono B.out.size)
  have C6 : Hid (CR mapE x6 A6 c6 [(4, 1, 9), (5, 2, 0)]) := hc6
  clear hc6
  clear b
  go_wp2_with fail
  refine (lat_any 2 0 _).mono ?_
  rintro e x7 ⟨rfl, hb⟩
  have b : Below x6.heap.size x6 x7 := (by repeat' (first | with_reducible exact Below.refl _ _ | with_reducible assumption | with_reducible apply Below.drew | with_reducible apply below_drewN | with_reducible apply Below.alloc | with_reducible apply Below.setCell | (with_reducible refine Below.trans ?_ (Below.mono (by assumption) ?_)) | (simp; done) | (simp; omega) | omega | with_reducible apply le_size_alloc | with_reducible apply le_size_drewN | with_reducible apply le_size_drew | with_reducible apply le_size_setCell | refine Nat.le_trans ?_ (Below.size (by assumption))))
  clear hb
  replace C0 : Hid (CR mapE x7 A0 c0 [(4, 1, 9), (5, 1, 3), (5, 2, 0)]) := C0.out.ext b
  replace C5 : Hid (Sl x7 (.int .i64) A5 Lc) := C5.out.ext b
  replace C6 : Hid (CR mapE x7 A6 c6 [(4, 1, 9), (5, 2, 0)]) := C6.out.ext b
  replace B : Hid (Below w.heap.size w x7) := B.out.trans (b.mono B.out.size)
  clear b
  go_wp2_with fail
  refine (Remove_any A6 c6 [(4, 1, 9), (5, 2, 0)] 2 0 _ C6.out.1 (by simp)).mono ?_
  unfold RemPost
  rw [h3.out]
  rintro e x8 ⟨A7, c7, rfl, hc7, hb⟩
  have b : Below x7.heap.size x7 x8 := (by repeat' (first | with_reducible exact Below.refl _ _ | with_reducible assumption | with_reducible apply Below.drew | with_reducible apply below_drewN | with_reducible apply Below.alloc | with_reducible apply Below.setCell | (with_reducible refine Below.trans ?_ (Below.mono (by assumption) ?_)) | (simp; done) | (simp; omega) | omega | with_reducible apply le_size_alloc | with_reducible apply le_size_drewN | with_reducible apply le_size_drew | with_reducible apply le_size_setCell | refine Nat.le_trans ?_ (Below.size (by assumption))))
  clear hb
  replace C0 : Hid (CR mapE x8 A0 c0 [(4, 1, 9), (5, 1, 3), (5, 2, 0)]) := C0.out.ext b
  replace C5 : Hid (Sl x8 (.int .i64) A5 Lc) := C5.out.ext b
  replace C6 : Hid (CR mapE x8 A6 c6 [(4, 1, 9), (5, 2, 0)]) := C6.out.ext b
  replace B : Hid (Below w.heap.size w x8) := B.out.trans (b.mono B.out.size)
  have C7 : Hid (CR mapE x8 A7 c7 [(4, 1, 9)]) := hc7
  clear hc7
  clear b
  clear C6
  go_wp2_with fail
  refine (lat_any 1 3 _).mono ?_
  rintro e x9 ⟨rfl, hb⟩
  have b : Below x8.heap.size x8 x9 := (by repeat' (first | with_reducible exact Below.refl _ _ | with_reducible assumption | with_reducible apply Below.drew | with_reducible apply below_drewN | with_reducible apply Below.alloc | with_reducible apply Below.setCell | (with_reducible refine Below.trans ?_ (Below.mono (by assumption) ?_)) | (simp; done) | (simp; omega) | omega | with_reducible apply le_size_alloc | with_reducible apply le_size_drewN | with_reducible apply le_size_drew | with_reducible apply le_size_setCell | refine Nat.le_trans ?_ (Below.size (by assumption))))
  clear hb
  replace C0 : Hid (CR mapE x9 A0 c0 [(4, 1, 9), (5, 1, 3), (5, 2, 0)]) := C0.out.ext b
  replace C5 : Hid (Sl x9 (.int .i64) A5 Lc) := C5.out.ext b
  replace C7 : Hid (CR mapE x9 A7 c7 [(4, 1, 9)]) := C7.out.ext b
  replace B : Hid (Below w.heap.size w x9) := B.out.trans (b.mono B.out.size)
  clear b
  go_wp2_with fail
  refine (Move_any A0 c0 [(4, 1, 9), (5, 1, 3), (5, 2, 0)] 1 3 4 _ C0.out.1 (by simp)).mono ?_
  unfold MovPost
  rw [h4.out]
  rintro e x10 ⟨A8, c8, rfl, hc8, hb⟩
  have b : Below x9.heap.size x9 x10 := (by repeat' (first | with_reducible exact Below.refl _ _ | with_reducible assumption | with_reducible apply Below.drew | with_reducible apply below_drewN | with_reducible apply Below.alloc | with_reducible apply Below.setCell | (with_reducible refine Below.trans ?_ (Below.mono (by assumption) ?_)) | (simp; done) | (simp; omega) | omega | with_reducible apply le_size_alloc | with_reducible apply le_size_drewN | with_reducible apply le_size_drew | with_reducible apply le_size_setCell | refine Nat.le_trans ?_ (Below.size (by assumption))))
  clear hb
  replace C0 : Hid (CR mapE x10 A0 c0 [(4, 1, 9), (5, 1, 3), (5, 2, 0)]) := C0.out.ext b
  replace C5 : Hid (Sl x10 (.int .i64) A5 Lc) := C5.out.ext b
  replace C7 : Hid (CR mapE x10 A7 c7 [(4, 1, 9)]) := C7.out.ext b
  replace B : Hid (Below w.heap.size w x10) := B.out.trans (b.mono B.out.size)
  have C8 : Hid (CR mapE x10 A8 c8 [(4, 1, 3), (4, 1, 9), (5, 2, 0)]) := hc8
  clear hc8
  clear b
  go_wp2_with fail
  refine (Fork_any A0 c0 [(4, 1, 9), (5, 1, 3), (5, 2, 0)] 1 3 _ C0.out.1 (by simp)).mono ?_
  unfold LePost
  rw [h5.out]
  rintro e x11 ⟨A9, c9, rfl, hc9, hb⟩
  have b : Below x10.heap.size x10 x11 := (by repeat' (first | with_reducible exact Below.refl _ _ | with_reducible assumption | with_reducible apply Below.drew | with_reducible apply below_drewN | with_reducible apply Below.alloc | with_reducible apply Below.setCell | (with_reducible refine Below.trans ?_ (Below.mono (by assumption) ?_)) | (simp; done) | (simp; omega) | omega | with_reducible apply le_size_alloc | with_reducible apply le_size_drewN | with_reducible apply le_size_drew | with_reducible apply le_size_setCell | refine Nat.le_trans ?_ (Below.size (by assumption))))
  clear hb
  replace C0 : Hid (CR mapE x11 A0 c0 [(4, 1, 9), (5, 1, 3), (5, 2, 0)]) := C0.out.ext b
  replace C5 : Hid (Sl x11 (.int .i64) A5 Lc) := C5.out.ext b
  replace C7 : Hid (CR mapE x11 A7 c7 [(4, 1, 9)]) := C7.out.ext b
  replace C8 : Hid (CR mapE x11 A8 c8 [(4, 1, 3), (4, 1, 9), (5, 2, 0)]) := C8.out.ext b
  replace B : Hid (Below w.heap.size w x11) := B.out.trans (b.mono B.out.size)
  have C9 : Hid (CR mapE x11 A9 c9 [(4, 1, 9), (4, 3, 9), (5, 1, 3), (5, 2, 0), (5, 3, 3)]) := hc9
  clear hc9
  clear b
  go_wp2_with fail
  refine (Fork_any A0 c0 [(4, 1, 9), (5, 1, 3), (5, 2, 0)] 1 2 _ C0.out.1 (by simp)).mono ?_
  unfold LePost
  rw [h6.out]
  rintro e x12 ⟨Aa, ca, rfl, _, hb⟩
  have b : Below x11.heap.size x11 x12 := (by repeat' (first | with_reducible exact Below.refl _ _ | with_reducible assumption | with_reducible apply Below.drew | with_reducible apply below_drewN | with_reducible apply Below.alloc | with_reducible apply Below.setCell | (with_reducible refine Below.trans ?_ (Below.mono (by assumption) ?_)) | (simp; done) | (simp; omega) | omega | with_reducible apply le_size_alloc | with_reducible apply le_size_drewN | with_reducible apply le_size_drew | with_reducible apply le_size_setCell | refine Nat.le_trans ?_ (Below.size (by assumption))))
  clear hb
  replace C0 : Hid (CR mapE x12 A0 c0 [(4, 1, 9), (5, 1, 3), (5, 2, 0)]) := C0.out.ext b
  replace C5 : Hid (Sl x12 (.int .i64) A5 Lc) := C5.out.ext b
  replace C7 : Hid (CR mapE x12 A7 c7 [(4, 1, 9)]) := C7.out.ext b
  replace C8 : Hid (CR mapE x12 A8 c8 [(4, 1, 3), (4, 1, 9), (5, 2, 0)]) := C8.out.ext b
  replace C9 : Hid (CR mapE x12 A9 c9 [(4, 1, 9), (4, 3, 9), (5, 1, 3), (5, 2, 0), (5, 3, 3)]) := C9.out.ext b
  replace B : Hid (Below w.heap.size w x12) := B.out.trans (b.mono B.out.size)
  clear b
  go_wp2_with fail
  refine (Fork_any A0 c0 [(4, 1, 9), (5, 1, 3), (5, 2, 0)] 1 1 _ C0.out.1 (by simp)).mono ?_
  unfold LePost
  rw [h7.out]
  rintro e x13 ⟨Ab, cb, rfl, _, hb⟩
  have b : Below x12.heap.size x12 x13 := (by repeat' (first | with_reducible exact Below.refl _ _ | with_reducible assumption | with_reducible apply Below.drew | with_reducible apply below_drewN | with_reducible apply Below.alloc | with_reducible apply Below.setCell | (with_reducible refine Below.trans ?_ (Below.mono (by assumption) ?_)) | (simp; done) | (simp; omega) | omega | with_reducible apply le_size_alloc | with_reducible apply le_size_drewN | with_reducible apply le_size_drew | with_reducible apply le_size_setCell | refine Nat.le_trans ?_ (Below.size (by assumption))))
  clear hb
  replace C0 : Hid (CR mapE x13 A0 c0 [(4, 1, 9), (5, 1, 3), (5, 2, 0)]) := C0.out.ext b
  replace C5 : Hid (Sl x13 (.int .i64) A5 Lc) := C5.out.ext b
  replace C7 : Hid (CR mapE x13 A7 c7 [(4, 1, 9)]) := C7.out.ext b
  replace C8 : Hid (CR mapE x13 A8 c8 [(4, 1, 3), (4, 1, 9), (5, 2, 0)]) := C8.out.ext b
  replace C9 : Hid (CR mapE x13 A9 c9 [(4, 1, 9), (4, 3, 9), (5, 1, 3), (5, 2, 0), (5, 3, 3)]) := C9.out.ext b
  replace B : Hid (Below w.heap.size w x13) := B.out.trans (b.mono B.out.size)
  clear b
  go_wp2_with fail
  refine (lat_any 1 3 _).mono ?_
  rintro e x14 ⟨rfl, hb⟩
  have b : Below x13.heap.size x13 x14 := (by repeat' (first | with_reducible exact Below.refl _ _ | with_reducible assumption | with_reducible apply Below.drew | with_reducible apply below_drewN | with_reducible apply Below.alloc | with_reducible apply Below.setCell | (with_reducible refine Below.trans ?_ (Below.mono (by assumption) ?_)) | (simp; done) | (simp; omega) | omega | with_reducible apply le_size_alloc | with_reducible apply le_size_drewN | with_reducible apply le_size_drew | with_reducible apply le_size_setCell | refine Nat.le_trans ?_ (Below.size (by assumption))))
  clear hb
  replace C0 : Hid (CR mapE x14 A0 c0 [(4, 1, 9), (5, 1, 3), (5, 2, 0)]) := C0.out.ext b
  replace C5 : Hid (Sl x14 (.int .i64) A5 Lc) := C5.out.ext b
  replace C7 : Hid (CR mapE x14 A7 c7 [(4, 1, 9)]) := C7.out.ext b
  replace C8 : Hid (CR mapE x14 A8 c8 [(4, 1, 3), (4, 1, 9), (5, 2, 0)]) := C8.out.ext b
  replace C9 : Hid (CR mapE x14 A9 c9 [(4, 1, 9), (4, 3, 9), (5, 1, 3), (5, 2, 0), (5, 3, 3)]) := C9.out.ext b
  replace B : Hid (Below w.heap.size w x14) := B.out.trans (b.mono B.out.size)
  clear b
  go_wp2_with fail
  refine (Add_any A0 c0 [(4, 1, 9), (5, 1, 3), (5, 2, 0)] 6 1 3 _ C0.out.1 (by simp)).mono ?_
  unfold LePost
  rw [h8.out]
  rintro e x15 ⟨Ac, cc, rfl, _, hb⟩
  have b : Below x14.heap.size x14 x15 := (by repeat' (first | with_reducible exact Below.refl _ _ | with_reducible assumption | with_reducible apply Below.drew | with_reducible apply below_drewN | with_reducible apply Below.alloc | with_reducible apply Below.setCell | (with_reducible refine Below.trans ?_ (Below.mono (by assumption) ?_)) | (simp; done) | (simp; omega) | omega | with_reducible apply le_size_alloc | with_reducible apply le_size_drewN | with_reducible apply le_size_drew | with_reducible apply le_size_setCell | refine Nat.le_trans ?_ (Below.size (by assumption))))
  clear hb
  replace C0 : Hid (CR mapE x15 A0 c0 [(4, 1, 9), (5, 1, 3), (5, 2, 0)]) := C0.out.ext b
  replace C5 : Hid (Sl x15 (.int .i64) A5 Lc) := C5.out.ext b
  replace C7 : Hid (CR mapE x15 A7 c7 [(4, 1, 9)]) := C7.out.ext b
  replace C8 : Hid (CR mapE x15 A8 c8 [(4, 1, 3), (4, 1, 9), (5, 2, 0)]) := C8.out.ext b
  replace C9 : Hid (CR mapE x15 A9 c9 [(4, 1, 9), (4, 3, 9), (5, 1, 3), (5, 2, 0), (5, 3, 3)]) := C9.out.ext b
  replace B : Hid (Below w.heap.size w x15) := B.out.trans (b.mono B.out.size)
  clear b
  go_wp2_with fail
  refine (lat_any 1 0 _).mono ?_
  rintro e x16 ⟨rfl, hb⟩
  have b : Below x15.heap.size x15 x16 := (by repeat' (first | with_reducible exact Below.refl _ _ | with_reducible assumption | with_reducible apply Below.drew | with_reducible apply below_drewN | with_reducible apply Below.alloc | with_reducible apply Below.setCell | (with_reducible refine Below.trans ?_ (Below.mono (by assumption) ?_)) | (simp; done) | (simp; omega) | omega | with_reducible apply le_size_alloc | with_reducible apply le_size_drewN | with_reducible apply le_size_drew | with_reducible apply le_size_setCell | refine Nat.le_trans ?_ (Below.size (by assumption))))
  clear hb
  replace C0 : Hid (CR mapE x16 A0 c0 [(4, 1, 9), (5, 1, 3), (5, 2, 0)]) := C0.out.ext b
  replace C5 : Hid (Sl x16 (.int .i64) A5 Lc) := C5.out.ext b
  replace C7 : Hid (CR mapE x16 A7 c7 [(4, 1, 9)]) := C7.out.ext b
  replace C8 : Hid (CR mapE x16 A8 c8 [(4, 1, 3), (4, 1, 9), (5, 2, 0)]) := C8.out.ext b
  replace C9 : Hid (CR mapE x16 A9 c9 [(4, 1, 9), (4, 3, 9), (5, 1, 3), (5, 2, 0), (5, 3, 3)]) := C9.out.ext b
  replace B : Hid (Below w.heap.size w x16) := B.out.trans (b.mono B.out.size)
  clear b
  go_wp2_with fail
  refine (Add_any A0 c0 [(4, 1, 9), (5, 1, 3), (5, 2, 0)] 256 1 0 _ C0.out.1 (by simp)).mono ?_
  unfold LePost
  rw [h9.out]
  rintro e x17 ⟨Ad, cd, rfl, _, hb⟩
  have b : Below x16.heap.size x16 x17 := (by repeat' (first | with_reducible exact Below.refl _ _ | with_reducible assumption | with_reducible apply Below.drew | with_reducible apply below_drewN | with_reducible apply Below.alloc | with_reducible apply Below.setCell | (with_reducible refine Below.trans ?_ (Below.mono (by assumption) ?_)) | (simp; done) | (simp; omega) | omega | with_reducible apply le_size_alloc | with_reducible apply le_size_drewN | with_reducible apply le_size_drew | with_reducible apply le_size_setCell | refine Nat.le_trans ?_ (Below.size (by assumption))))
  clear hb
  replace C0 : Hid (CR mapE x17 A0 c0 [(4, 1, 9), (5, 1, 3), (5, 2, 0)]) := C0.out.ext b
  replace C5 : Hid (Sl x17 (.int .i64) A5 Lc) := C5.out.ext b
  replace C7 : Hid (CR mapE x17 A7 c7 [(4, 1, 9)]) := C7.out.ext b
  replace C8 : Hid (CR mapE x17 A8 c8 [(4, 1, 3), (4, 1, 9), (5, 2, 0)]) := C8.out.ext b
  replace C9 : Hid (CR mapE x17 A9 c9 [(4, 1, 9), (4, 3, 9), (5, 1, 3), (5, 2, 0), (5, 3, 3)]) := C9.out.ext b
  replace B : Hid (Below w.heap.size w x17) := B.out.trans (b.mono B.out.size)
  clear b
  go_wp2_with fail
  refine (lat_any 1 4 _).mono ?_
  rintro e x18 ⟨rfl, hb⟩
  have b : Below x17.heap.size x17 x18 := (by repeat' (first | with_reducible exact Below.refl _ _ | with_reducible assumption | with_reducible apply Below.drew | with_reducible apply below_drewN | with_reducible apply Below.alloc | with_reducible apply Below.setCell | (with_reducible refine Below.trans ?_ (Below.mono (by assumption) ?_)) | (simp; done) | (simp; omega) | omega | with_reducible apply le_size_alloc | with_reducible apply le_size_drewN | with_reducible apply le_size_drew | with_reducible apply le_size_setCell | refine Nat.le_trans ?_ (Below.size (by assumption))))
  clear hb
  replace C0 : Hid (CR mapE x18 A0 c0 [(4, 1, 9), (5, 1, 3), (5, 2, 0)]) := C0.out.ext b
  replace C5 : Hid (Sl x18 (.int .i64) A5 Lc) := C5.out.ext b
  replace C7 : Hid (CR mapE x18 A7 c7 [(4, 1, 9)]) := C7.out.ext b
  replace C8 : Hid (CR mapE x18 A8 c8 [(4, 1, 3), (4, 1, 9), (5, 2, 0)]) := C8.out.ext b
  replace C9 : Hid (CR mapE x18 A9 c9 [(4, 1, 9), (4, 3, 9), (5, 1, 3), (5, 2, 0), (5, 3, 3)]) := C9.out.ext b
  replace B : Hid (Below w.heap.size w x18) := B.out.trans (b.mono B.out.size)
  clear b
  go_wp2_with fail
  refine (Remove_any A0 c0 [(4, 1, 9), (5, 1, 3), (5, 2, 0)] 1 4 _ C0.out.1 (by simp)).mono ?_
  unfold RemPost
  rw [h10.out]
  rintro e x19 ⟨Ae, ce, rfl, _, hb⟩
  have b : Below x18.heap.size x18 x19 := (by repeat' (first | with_reducible exact Below.refl _ _ | with_reducible assumption | with_reducible apply Below.drew | with_reducible apply below_drewN | with_reducible apply Below.alloc | with_reducible apply Below.setCell | (with_reducible refine Below.trans ?_ (Below.mono (by assumption) ?_)) | (simp; done) | (simp; omega) | omega | with_reducible apply le_size_alloc | with_reducible apply le_size_drewN | with_reducible apply le_size_drew | with_reducible apply le_size_setCell | refine Nat.le_trans ?_ (Below.size (by assumption))))
  clear hb
  replace C0 : Hid (CR mapE x19 A0 c0 [(4, 1, 9), (5, 1, 3), (5, 2, 0)]) := C0.out.ext b
  replace C5 : Hid (Sl x19 (.int .i64) A5 Lc) := C5.out.ext b
  replace C7 : Hid (CR mapE x19 A7 c7 [(4, 1, 9)]) := C7.out.ext b
  replace C8 : Hid (CR mapE x19 A8 c8 [(4, 1, 3), (4, 1, 9), (5, 2, 0)]) := C8.out.ext b
  replace C9 : Hid (CR mapE x19 A9 c9 [(4, 1, 9), (4, 3, 9), (5, 1, 3), (5, 2, 0), (5, 3, 3)]) := C9.out.ext b
  replace B : Hid (Below w.heap.size w x19) := B.out.trans (b.mono B.out.size)
  clear b
  go_wp2_with fail
  refine (Drop_any A0 c0 [(4, 1, 9), (5, 1, 3), (5, 2, 0)] 5 _ C0.out.1 (by simp)).mono ?_
  unfold DrpPost
  rw [h11.out]
  rintro e x20 ⟨Af, cf, Ag, cg, rfl, hcf, hcg, hb⟩
  have b : Below x19.heap.size x19 x20 := (by repeat' (first | with_reducible exact Below.refl _ _ | with_reducible assumption | with_reducible apply Below.drew | with_reducible apply below_drewN | with_reducible apply Below.alloc | with_reducible apply Below.setCell | (with_reducible refine Below.trans ?_ (Below.mono (by assumption) ?_)) | (simp; done) | (simp; omega) | omega | with_reducible apply le_size_alloc | with_reducible apply le_size_drewN | with_reducible apply le_size_drew | with_reducible apply le_size_setCell | refine Nat.le_trans ?_ (Below.size (by assumption))))
  clear hb
  replace C0 : Hid (CR mapE x20 A0 c0 [(4, 1, 9), (5, 1, 3), (5, 2, 0)]) := C0.out.ext b
  replace C5 : Hid (Sl x20 (.int .i64) A5 Lc) := C5.out.ext b
  replace C7 : Hid (CR mapE x20 A7 c7 [(4, 1, 9)]) := C7.out.ext b
  replace C8 : Hid (CR mapE x20 A8 c8 [(4, 1, 3), (4, 1, 9), (5, 2, 0)]) := C8.out.ext b
  replace C9 : Hid (CR mapE x20 A9 c9 [(4, 1, 9), (4, 3, 9), (5, 1, 3), (5, 2, 0), (5, 3, 3)]) := C9.out.ext b
  replace B : Hid (Below w.heap.size w x20) := B.out.trans (b.mono B.out.size)
  have Cf : Hid (CR mapE x20 Af cf [(4, 1, 9)]) := hcf
  have Cg : Hid (CR plE x20 Ag cg [(1, 3), (2, 0)]) := hcg
  clear hcf
  clear hcg
  clear b
  obtain ⟨b5, off5, rfl, hb5, q4, q5, q6⟩ := sl3 C5.out G4.out G5.out G6.out
  clear C5
  clear C0
  go_wp2_with fail
  refine (lm_any 4 1 9 _).mono ?_
  rintro e x21 ⟨rfl, hb⟩
  have b : Below x20.heap.size x20 x21 := (by repeat' (first | with_reducible exact Below.refl _ _ | with_reducible assumption | with_reducible apply Below.drew | with_reducible apply below_drewN | with_reducible apply Below.alloc | with_reducible apply Below.setCell | (with_reducible refine Below.trans ?_ (Below.mono (by assumption) ?_)) | (simp; done) | (simp; omega) | omega | with_reducible apply le_size_alloc | with_reducible apply le_size_drewN | with_reducible apply le_size_drew | with_reducible apply le_size_setCell | refine Nat.le_trans ?_ (Below.size (by assumption))))
  clear hb
  replace C7 : Hid (CR mapE x21 A7 c7 [(4, 1, 9)]) := C7.out.ext b
  replace C8 : Hid (CR mapE x21 A8 c8 [(4, 1, 3), (4, 1, 9), (5, 2, 0)]) := C8.out.ext b
  replace C9 : Hid (CR mapE x21 A9 c9 [(4, 1, 9), (4, 3, 9), (5, 1, 3), (5, 2, 0), (5, 3, 3)]) := C9.out.ext b
  replace Cf : Hid (CR mapE x21 Af cf [(4, 1, 9)]) := Cf.out.ext b
  replace Cg : Hid (CR plE x21 Ag cg [(1, 3), (2, 0)]) := Cg.out.ext b
  replace B : Hid (Below w.heap.size w x21) := B.out.trans (b.mono B.out.size)
  clear b
  clear q4 q5 q6 hb5
  go_wp2_with fail
  have q : SR mapE (x21.alloc (.cells (mapE.flat [(4, 1, 9)]).toArray 59)) (some ⟨x21.heap.size, 0, none⟩) [(4, 1, 9)] := SR.of_blk (Blk.new_ rfl rfl)
  refine (llist_any (some ⟨x21.heap.size, 0, none⟩) 1 1 _).mono ?_
  rintro e x22 ⟨rfl, hb⟩
  have HL : Hid (SR mapE x22 (some ⟨x21.heap.size, 0, none⟩) [(4, 1, 9)]) := q.ext hb
  have b : Below x21.heap.size x21 x22 := (by repeat' (first | with_reducible exact Below.refl _ _ | with_reducible assumption | with_reducible apply Below.drew | with_reducible apply below_drewN | with_reducible apply Below.alloc | with_reducible apply Below.setCell | (with_reducible refine Below.trans ?_ (Below.mono (by assumption) ?_)) | (simp; done) | (simp; omega) | omega | with_reducible apply le_size_alloc | with_reducible apply le_size_drewN | with_reducible apply le_size_drew | with_reducible apply le_size_setCell | refine Nat.le_trans ?_ (Below.size (by assumption))))
  clear hb q
  replace C7 : Hid (CR mapE x22 A7 c7 [(4, 1, 9)]) := C7.out.ext b
  replace C8 : Hid (CR mapE x22 A8 c8 [(4, 1, 3), (4, 1, 9), (5, 2, 0)]) := C8.out.ext b
  replace C9 : Hid (CR mapE x22 A9 c9 [(4, 1, 9), (4, 3, 9), (5, 1, 3), (5, 2, 0), (5, 3, 3)]) := C9.out.ext b
  replace Cf : Hid (CR mapE x22 Af cf [(4, 1, 9)]) := Cf.out.ext b
  replace Cg : Hid (CR plE x22 Ag cg [(1, 3), (2, 0)]) := Cg.out.ext b
  replace B : Hid (Below w.heap.size w x22) := B.out.trans (b.mono B.out.size)
  clear b
  go_wp2_with fail
  refine (SameMaps_any A7 (some ⟨x21.heap.size, 0, none⟩) c7 1 [(4, 1, 9)] [(4, 1, 9)] _ (C7.out.1) HL.out (by simp) (by simp)).mono ?_
  rw [decide_eq_true rfl]
  rintro e x23 ⟨rfl, hb⟩
  have b : Below x22.heap.size x22 x23 := (by repeat' (first | with_reducible exact Below.refl _ _ | with_reducible assumption | with_reducible apply Below.drew | with_reducible apply below_drewN | with_reducible apply Below.alloc | with_reducible apply Below.setCell | (with_reducible refine Below.trans ?_ (Below.mono (by assumption) ?_)) | (simp; done) | (simp; omega) | omega | with_reducible apply le_size_alloc | with_reducible apply le_size_drewN | with_reducible apply le_size_drew | with_reducible apply le_size_setCell | refine Nat.le_trans ?_ (Below.size (by assumption))))
  clear hb
  replace C7 : Hid (CR mapE x23 A7 c7 [(4, 1, 9)]) := C7.out.ext b
  replace C8 : Hid (CR mapE x23 A8 c8 [(4, 1, 3), (4, 1, 9), (5, 2, 0)]) := C8.out.ext b
  replace C9 : Hid (CR mapE x23 A9 c9 [(4, 1, 9), (4, 3, 9), (5, 1, 3), (5, 2, 0), (5, 3, 3)]) := C9.out.ext b
  replace Cf : Hid (CR mapE x23 Af cf [(4, 1, 9)]) := Cf.out.ext b
  replace Cg : Hid (CR plE x23 Ag cg [(1, 3), (2, 0)]) := Cg.out.ext b
  replace B : Hid (Below w.heap.size w x23) := B.out.trans (b.mono B.out.size)
  clear b
  clear HL
  clear C7
  go_wp2_with fail
  refine (lm_any 4 1 3 _).mono ?_
  rintro e x24 ⟨rfl, hb⟩
  have b : Below x23.heap.size x23 x24 := (by repeat' (first | with_reducible exact Below.refl _ _ | with_reducible assumption | with_reducible apply Below.drew | with_reducible apply below_drewN | with_reducible apply Below.alloc | with_reducible apply Below.setCell | (with_reducible refine Below.trans ?_ (Below.mono (by assumption) ?_)) | (simp; done) | (simp; omega) | omega | with_reducible apply le_size_alloc | with_reducible apply le_size_drewN | with_reducible apply le_size_drew | with_reducible apply le_size_setCell | refine Nat.le_trans ?_ (Below.size (by assumption))))
  clear hb
  replace C8 : Hid (CR mapE x24 A8 c8 [(4, 1, 3), (4, 1, 9), (5, 2, 0)]) := C8.out.ext b
  replace C9 : Hid (CR mapE x24 A9 c9 [(4, 1, 9), (4, 3, 9), (5, 1, 3), (5, 2, 0), (5, 3, 3)]) := C9.out.ext b
  replace Cf : Hid (CR mapE x24 Af cf [(4, 1, 9)]) := Cf.out.ext b
  replace Cg : Hid (CR plE x24 Ag cg [(1, 3), (2, 0)]) := Cg.out.ext b
  replace B : Hid (Below w.heap.size w x24) := B.out.trans (b.mono B.out.size)
  clear b
  go_wp2_with fail
  refine (lm_any 4 1 9 _).mono ?_
  rintro e x25 ⟨rfl, hb⟩
  have b : Below x24.heap.size x24 x25 := (by repeat' (first | with_reducible exact Below.refl _ _ | with_reducible assumption | with_reducible apply Below.drew | with_reducible apply below_drewN | with_reducible apply Below.alloc | with_reducible apply Below.setCell | (with_reducible refine Below.trans ?_ (Below.mono (by assumption) ?_)) | (simp; done) | (simp; omega) | omega | with_reducible apply le_size_alloc | with_reducible apply le_size_drewN | with_reducible apply le_size_drew | with_reducible apply le_size_setCell | refine Nat.le_trans ?_ (Below.size (by assumption))))
  clear hb
  replace C8 : Hid (CR mapE x25 A8 c8 [(4, 1, 3), (4, 1, 9), (5, 2, 0)]) := C8.out.ext b
  replace C9 : Hid (CR mapE x25 A9 c9 [(4, 1, 9), (4, 3, 9), (5, 1, 3), (5, 2, 0), (5, 3, 3)]) := C9.out.ext b
  replace Cf : Hid (CR mapE x25 Af cf [(4, 1, 9)]) := Cf.out.ext b
  replace Cg : Hid (CR plE x25 Ag cg [(1, 3), (2, 0)]) := Cg.out.ext b
  replace B : Hid (Below w.heap.size w x25) := B.out.trans (b.mono B.out.size)
  clear b
  go_wp2_with fail
  refine (lm_any 5 2 0 _).mono ?_
  rintro e x26 ⟨rfl, hb⟩
  have b : Below x25.heap.size x25 x26 := (by repeat' (first | with_reducible exact Below.refl _ _ | with_reducible assumption | with_reducible apply Below.drew | with_reducible apply below_drewN | with_reducible apply Below.alloc | with_reducible apply Below.setCell | (with_reducible refine Below.trans ?_ (Below.mono (by assumption) ?_)) | (simp; done) | (simp; omega) | omega | with_reducible apply le_size_alloc | with_reducible apply le_size_drewN | with_reducible apply le_size_drew | with_reducible apply le_size_setCell | refine Nat.le_trans ?_ (Below.size (by assumption))))
  clear hb
  replace C8 : Hid (CR mapE x26 A8 c8 [(4, 1, 3), (4, 1, 9), (5, 2, 0)]) := C8.out.ext b
  replace C9 : Hid (CR mapE x26 A9 c9 [(4, 1, 9), (4, 3, 9), (5, 1, 3), (5, 2, 0), (5, 3, 3)]) := C9.out.ext b
  replace Cf : Hid (CR mapE x26 Af cf [(4, 1, 9)]) := Cf.out.ext b
  replace Cg : Hid (CR plE x26 Ag cg [(1, 3), (2, 0)]) := Cg.out.ext b
  replace B : Hid (Below w.heap.size w x26) := B.out.trans (b.mono B.out.size)
  clear b
  go_wp2_with fail
  have q : SR mapE (x26.alloc (.cells (mapE.flat [(4, 1, 3), (4, 1, 9), (5, 2, 0)]).toArray 59)) (some ⟨x26.heap.size, 0, none⟩) [(4, 1, 3), (4, 1, 9), (5, 2, 0)] := SR.of_blk (Blk.new_ rfl rfl)
  refine (llist_any (some ⟨x26.heap.size, 0, none⟩) 3 3 _).mono ?_
  rintro e x27 ⟨rfl, hb⟩
  have HL : Hid (SR mapE x27 (some ⟨x26.heap.size, 0, none⟩) [(4, 1, 3), (4, 1, 9), (5, 2, 0)]) := q.ext hb
  have b : Below x26.heap.size x26 x27 := (by repeat' (first | with_reducible exact Below.refl _ _ | with_reducible assumption | with_reducible apply Below.drew | with_reducible apply below_drewN | with_reducible apply Below.alloc | with_reducible apply Below.setCell | (with_reducible refine Below.trans ?_ (Below.mono (by assumption) ?_)) | (simp; done) | (simp; omega) | omega | with_reducible apply le_size_alloc | with_reducible apply le_size_drewN | with_reducible apply le_size_drew | with_reducible apply le_size_setCell | refine Nat.le_trans ?_ (Below.size (by assumption))))
  clear hb q
  replace C8 : Hid (CR mapE x27 A8 c8 [(4, 1, 3), (4, 1, 9), (5, 2, 0)]) := C8.out.ext b
  replace C9 : Hid (CR mapE x27 A9 c9 [(4, 1, 9), (4, 3, 9), (5, 1, 3), (5, 2, 0), (5, 3, 3)]) := C9.out.ext b
  replace Cf : Hid (CR mapE x27 Af cf [(4, 1, 9)]) := Cf.out.ext b
  replace Cg : Hid (CR plE x27 Ag cg [(1, 3), (2, 0)]) := Cg.out.ext b
  replace B : Hid (Below w.heap.size w x27) := B.out.trans (b.mono B.out.size)
  clear b
  go_wp2_with fail
  refine (SameMaps_any A8 (some ⟨x26.heap.size, 0, none⟩) c8 3 [(4, 1, 3), (4, 1, 9), (5, 2, 0)] [(4, 1, 3), (4, 1, 9), (5, 2, 0)] _ (C8.out.1) HL.out (by simp) (by simp)).mono ?_
  rw [decide_eq_true rfl]
  rintro e x28 ⟨rfl, hb⟩
  have b : Below x27.heap.size x27 x28 := (by repeat' (first | with_reducible exact Below.refl _ _ | with_reducible assumption | with_reducible apply Below.drew | with_reducible apply below_drewN | with_reducible apply Below.alloc | with_reducible apply Below.setCell | (with_reducible refine Below.trans ?_ (Below.mono (by assumption) ?_)) | (simp; done) | (simp; omega) | omega | with_reducible apply le_size_alloc | with_reducible apply le_size_drewN | with_reducible apply le_size_drew | with_reducible apply le_size_setCell | refine Nat.le_trans ?_ (Below.size (by assumption))))
  clear hb
  replace C8 : Hid (CR mapE x28 A8 c8 [(4, 1, 3), (4, 1, 9), (5, 2, 0)]) := C8.out.ext b
  replace C9 : Hid (CR mapE x28 A9 c9 [(4, 1, 9), (4, 3, 9), (5, 1, 3), (5, 2, 0), (5, 3, 3)]) := C9.out.ext b
  replace Cf : Hid (CR mapE x28 Af cf [(4, 1, 9)]) := Cf.out.ext b
  replace Cg : Hid (CR plE x28 Ag cg [(1, 3), (2, 0)]) := Cg.out.ext b
  replace B : Hid (Below w.heap.size w x28) := B.out.trans (b.mono B.out.size)
  clear b
  clear HL
  clear C8
  go_wp2_with fail
  refine (lm_any 4 1 9 _).mono ?_
  rintro e x29 ⟨rfl, hb⟩
  have b : Below x28.heap.size x28 x29 := (by repeat' (first | with_reducible exact Below.refl _ _ | with_reducible assumption | with_reducible apply Below.drew | with_reducible apply below_drewN | with_reducible apply Below.alloc | with_reducible apply Below.setCell | (with_reducible refine Below.trans ?_ (Below.mono (by assumption) ?_)) | (simp; done) | (simp; omega) | omega | with_reducible apply le_size_alloc | with_reducible apply le_size_drewN | with_reducible apply le_size_drew | with_reducible apply le_size_setCell | refine Nat.le_trans ?_ (Below.size (by assumption))))
  clear hb
  replace C9 : Hid (CR mapE x29 A9 c9 [(4, 1, 9), (4, 3, 9), (5, 1, 3), (5, 2, 0), (5, 3, 3)]) := C9.out.ext b
  replace Cf : Hid (CR mapE x29 Af cf [(4, 1, 9)]) := Cf.out.ext b
  replace Cg : Hid (CR plE x29 Ag cg [(1, 3), (2, 0)]) := Cg.out.ext b
  replace B : Hid (Below w.heap.size w x29) := B.out.trans (b.mono B.out.size)
  clear b
  go_wp2_with fail
  refine (lm_any 4 3 9 _).mono ?_
  rintro e x30 ⟨rfl, hb⟩
  have b : Below x29.heap.size x29 x30 := (by repeat' (first | with_reducible exact Below.refl _ _ | with_reducible assumption | with_reducible apply Below.drew | with_reducible apply below_drewN | with_reducible apply Below.alloc | with_reducible apply Below.setCell | (with_reducible refine Below.trans ?_ (Below.mono (by assumption) ?_)) | (simp; done) | (simp; omega) | omega | with_reducible apply le_size_alloc | with_reducible apply le_size_drewN | with_reducible apply le_size_drew | with_reducible apply le_size_setCell | refine Nat.le_trans ?_ (Below.size (by assumption))))
  clear hb
  replace C9 : Hid (CR mapE x30 A9 c9 [(4, 1, 9), (4, 3, 9), (5, 1, 3), (5, 2, 0), (5, 3, 3)]) := C9.out.ext b
  replace Cf : Hid (CR mapE x30 Af cf [(4, 1, 9)]) := Cf.out.ext b
  replace Cg : Hid (CR plE x30 Ag cg [(1, 3), (2, 0)]) := Cg.out.ext b
  replace B : Hid (Below w.heap.size w x30) := B.out.trans (b.mono B.out.size)
  clear b
  go_wp2_with fail
  refine (lm_any 5 1 3 _).mono ?_
  rintro e x31 ⟨rfl, hb⟩
  have b : Below x30.heap.size x30 x31 := (by repeat' (first | with_reducible exact Below.refl _ _ | with_reducible assumption | with_reducible apply Below.drew | with_reducible apply below_drewN | with_reducible apply Below.alloc | with_reducible apply Below.setCell | (with_reducible refine Below.trans ?_ (Below.mono (by assumption) ?_)) | (simp; done) | (simp; omega) | omega | with_reducible apply le_size_alloc | with_reducible apply le_size_drewN | with_reducible apply le_size_drew | with_reducible apply le_size_setCell | refine Nat.le_trans ?_ (Below.size (by assumption))))
  clear hb
  replace C9 : Hid (CR mapE x31 A9 c9 [(4, 1, 9), (4, 3, 9), (5, 1, 3), (5, 2, 0), (5, 3, 3)]) := C9.out.ext b
  replace Cf : Hid (CR mapE x31 Af cf [(4, 1, 9)]) := Cf.out.ext b
  replace Cg : Hid (CR plE x31 Ag cg [(1, 3), (2, 0)]) := Cg.out.ext b
  replace B : Hid (Below w.heap.size w x31) := B.out.trans (b.mono B.out.size)
  clear b
  go_wp2_with fail
  refine (lm_any 5 2 0 _).mono ?_
  rintro e x32 ⟨rfl, hb⟩
  have b : Below x31.heap.size x31 x32 := (by repeat' (first | with_reducible exact Below.refl _ _ | with_reducible assumption | with_reducible apply Below.drew | with_reducible apply below_drewN | with_reducible apply Below.alloc | with_reducible apply Below.setCell | (with_reducible refine Below.trans ?_ (Below.mono (by assumption) ?_)) | (simp; done) | (simp; omega) | omega | with_reducible apply le_size_alloc | with_reducible apply le_size_drewN | with_reducible apply le_size_drew | with_reducible apply le_size_setCell | refine Nat.le_trans ?_ (Below.size (by assumption))))
  clear hb
  replace C9 : Hid (CR mapE x32 A9 c9 [(4, 1, 9), (4, 3, 9), (5, 1, 3), (5, 2, 0), (5, 3, 3)]) := C9.out.ext b
  replace Cf : Hid (CR mapE x32 Af cf [(4, 1, 9)]) := Cf.out.ext b
  replace Cg : Hid (CR plE x32 Ag cg [(1, 3), (2, 0)]) := Cg.out.ext b
  replace B : Hid (Below w.heap.size w x32) := B.out.trans (b.mono B.out.size)
  clear b
  go_wp2_with fail
  refine (lm_any 5 3 3 _).mono ?_
  rintro e x33 ⟨rfl, hb⟩
  have b : Below x32.heap.size x32 x33 := (by repeat' (first | with_reducible exact Below.refl _ _ | with_reducible assumption | with_reducible apply Below.drew | with_reducible apply below_drewN | with_reducible apply Below.alloc | with_reducible apply Below.setCell | (with_reducible refine Below.trans ?_ (Below.mono (by assumption) ?_)) | (simp; done) | (simp; omega) | omega | with_reducible apply le_size_alloc | with_reducible apply le_size_drewN | with_reducible apply le_size_drew | with_reducible apply le_size_setCell | refine Nat.le_trans ?_ (Below.size (by assumption))))
  clear hb
  replace C9 : Hid (CR mapE x33 A9 c9 [(4, 1, 9), (4, 3, 9), (5, 1, 3), (5, 2, 0), (5, 3, 3)]) := C9.out.ext b
  replace Cf : Hid (CR mapE x33 Af cf [(4, 1, 9)]) := Cf.out.ext b
  replace Cg : Hid (CR plE x33 Ag cg [(1, 3), (2, 0)]) := Cg.out.ext b
  replace B : Hid (Below w.heap.size w x33) := B.out.trans (b.mono B.out.size)
  clear b
  go_wp2_with fail
  have q : SR mapE (x33.alloc (.cells (mapE.flat [(4, 1, 9), (4, 3, 9), (5, 1, 3), (5, 2, 0), (5, 3, 3)]).toArray 59)) (some ⟨x33.heap.size, 0, none⟩) [(4, 1, 9), (4, 3, 9), (5, 1, 3), (5, 2, 0), (5, 3, 3)] := SR.of_blk (Blk.new_ rfl rfl)
  refine (llist_any (some ⟨x33.heap.size, 0, none⟩) 5 5 _).mono ?_
  rintro e x34 ⟨rfl, hb⟩
  have HL : Hid (SR mapE x34 (some ⟨x33.heap.size, 0, none⟩) [(4, 1, 9), (4, 3, 9), (5, 1, 3), (5, 2, 0), (5, 3, 3)]) := q.ext hb
  have b : Below x33.heap.size x33 x34 := (by repeat' (first | with_reducible exact Below.refl _ _ | with_reducible assumption | with_reducible apply Below.drew | with_reducible apply below_drewN | with_reducible apply Below.alloc | with_reducible apply Below.setCell | (with_reducible refine Below.trans ?_ (Below.mono (by assumption) ?_)) | (simp; done) | (simp; omega) | omega | with_reducible apply le_size_alloc | with_reducible apply le_size_drewN | with_reducible apply le_size_drew | with_reducible apply le_size_setCell | refine Nat.le_trans ?_ (Below.size (by assumption))))
  clear hb q
  replace C9 : Hid (CR mapE x34 A9 c9 [(4, 1, 9), (4, 3, 9), (5, 1, 3), (5, 2, 0), (5, 3, 3)]) := C9.out.ext b
  replace Cf : Hid (CR mapE x34 Af cf [(4, 1, 9)]) := Cf.out.ext b
  replace Cg : Hid (CR plE x34 Ag cg [(1, 3), (2, 0)]) := Cg.out.ext b
  replace B : Hid (Below w.heap.size w x34) := B.out.trans (b.mono B.out.size)
  clear b
  go_wp2_with fail
  refine (SameMaps_any A9 (some ⟨x33.heap.size, 0, none⟩) c9 5 [(4, 1, 9), (4, 3, 9), (5, 1, 3), (5, 2, 0), (5, 3, 3)] [(4, 1, 9), (4, 3, 9), (5, 1, 3), (5, 2, 0), (5, 3, 3)] _ (C9.out.1) HL.out (by simp) (by simp)).mono ?_
  rw [decide_eq_true rfl]
  rintro e x35 ⟨rfl, hb⟩
  have b : Below x34.heap.size x34 x35 := (by repeat' (first | with_reducible exact Below.refl _ _ | with_reducible assumption | with_reducible apply Below.drew | with_reducible apply below_drewN | with_reducible apply Below.alloc | with_reducible apply Below.setCell | (with_reducible refine Below.trans ?_ (Below.mono (by assumption) ?_)) | (simp; done) | (simp; omega) | omega | with_reducible apply le_size_alloc | with_reducible apply le_size_drewN | with_reducible apply le_size_drew | with_reducible apply le_size_setCell | refine Nat.le_trans ?_ (Below.size (by assumption))))
  clear hb
  replace C9 : Hid (CR mapE x35 A9 c9 [(4, 1, 9), (4, 3, 9), (5, 1, 3), (5, 2, 0), (5, 3, 3)]) := C9.out.ext b
  replace Cf : Hid (CR mapE x35 Af cf [(4, 1, 9)]) := Cf.out.ext b
  replace Cg : Hid (CR plE x35 Ag cg [(1, 3), (2, 0)]) := Cg.out.ext b
  replace B : Hid (Below w.heap.size w x35) := B.out.trans (b.mono B.out.size)
  clear b
  clear HL
  clear C9
  go_wp2_with fail
  refine (awake_any _).mono ?_
  rintro e x36 ⟨rfl, hb⟩
  have b : Below x35.heap.size x35 x36 := (by repeat' (first | with_reducible exact Below.refl _ _ | with_reducible assumption | with_reducible apply Below.drew | with_reducible apply below_drewN | with_reducible apply Below.alloc | with_reducible apply Below.setCell | (with_reducible refine Below.trans ?_ (Below.mono (by assumption) ?_)) | (simp; done) | (simp; omega) | omega | with_reducible apply le_size_alloc | with_reducible apply le_size_drewN | with_reducible apply le_size_drew | with_reducible apply le_size_setCell | refine Nat.le_trans ?_ (Below.size (by assumption))))
  clear hb
  replace Cf : Hid (CR mapE x36 Af cf [(4, 1, 9)]) := Cf.out.ext b
  replace Cg : Hid (CR plE x36 Ag cg [(1, 3), (2, 0)]) := Cg.out.ext b
  replace B : Hid (Below w.heap.size w x36) := B.out.trans (b.mono B.out.size)
  clear b
  go_wp2_with fail
  refine (lm_any 4 1 9 _).mono ?_
  rintro e x37 ⟨rfl, hb⟩
  have b : Below x36.heap.size x36 x37 := (by repeat' (first | with_reducible exact Below.refl _ _ | with_reducible assumption | with_reducible apply Below.drew | with_reducible apply below_drewN | with_reducible apply Below.alloc | with_reducible apply Below.setCell | (with_reducible refine Below.trans ?_ (Below.mono (by assumption) ?_)) | (simp; done) | (simp; omega) | omega | with_reducible apply le_size_alloc | with_reducible apply le_size_drewN | with_reducible apply le_size_drew | with_reducible apply le_size_setCell | refine Nat.le_trans ?_ (Below.size (by assumption))))
  clear hb
  replace Cf : Hid (CR mapE x37 Af cf [(4, 1, 9)]) := Cf.out.ext b
  replace Cg : Hid (CR plE x37 Ag cg [(1, 3), (2, 0)]) := Cg.out.ext b
  replace B : Hid (Below w.heap.size w x37) := B.out.trans (b.mono B.out.size)
  clear b
  go_wp2_with fail
  have q : SR mapE (x37.alloc (.cells (mapE.flat [(4, 1, 9)]).toArray 59)) (some ⟨x37.heap.size, 0, none⟩) [(4, 1, 9)] := SR.of_blk (Blk.new_ rfl rfl)
  refine (llist_any (some ⟨x37.heap.size, 0, none⟩) 1 1 _).mono ?_
  rintro e x38 ⟨rfl, hb⟩
  have HL : Hid (SR mapE x38 (some ⟨x37.heap.size, 0, none⟩) [(4, 1, 9)]) := q.ext hb
  have b : Below x37.heap.size x37 x38 := (by repeat' (first | with_reducible exact Below.refl _ _ | with_reducible assumption | with_reducible apply Below.drew | with_reducible apply below_drewN | with_reducible apply Below.alloc | with_reducible apply Below.setCell | (with_reducible refine Below.trans ?_ (Below.mono (by assumption) ?_)) | (simp; done) | (simp; omega) | omega | with_reducible apply le_size_alloc | with_reducible apply le_size_drewN | with_reducible apply le_size_drew | with_reducible apply le_size_setCell | refine Nat.le_trans ?_ (Below.size (by assumption))))
  clear hb q
  replace Cf : Hid (CR mapE x38 Af cf [(4, 1, 9)]) := Cf.out.ext b
  replace Cg : Hid (CR plE x38 Ag cg [(1, 3), (2, 0)]) := Cg.out.ext b
  replace B : Hid (Below w.heap.size w x38) := B.out.trans (b.mono B.out.size)
  clear b
  go_wp2_with fail
  refine (SameMaps_any Af (some ⟨x37.heap.size, 0, none⟩) cf 1 [(4, 1, 9)] [(4, 1, 9)] _ (Cf.out.1) HL.out (by simp) (by simp)).mono ?_
  rw [decide_eq_true rfl]
  rintro e x39 ⟨rfl, hb⟩
  have b : Below x38.heap.size x38 x39 := (by repeat' (first | with_reducible exact Below.refl _ _ | with_reducible assumption | with_reducible apply Below.drew | with_reducible apply below_drewN | with_reducible apply Below.alloc | with_reducible apply Below.setCell | (with_reducible refine Below.trans ?_ (Below.mono (by assumption) ?_)) | (simp; done) | (simp; omega) | omega | with_reducible apply le_size_alloc | with_reducible apply le_size_drewN | with_reducible apply le_size_drew | with_reducible apply le_size_setCell | refine Nat.le_trans ?_ (Below.size (by assumption))))
  clear hb
  replace Cf : Hid (CR mapE x39 Af cf [(4, 1, 9)]) := Cf.out.ext b
  replace Cg : Hid (CR plE x39 Ag cg [(1, 3), (2, 0)]) := Cg.out.ext b
  replace B : Hid (Below w.heap.size w x39) := B.out.trans (b.mono B.out.size)
  clear b
  clear HL
  clear Cf
  go_wp2_with fail
  refine (lat_any 1 3 _).mono ?_
  rintro e x40 ⟨rfl, hb⟩
  have b : Below x39.heap.size x39 x40 := (by repeat' (first | with_reducible exact Below.refl _ _ | with_reducible assumption | with_reducible apply Below.drew | with_reducible apply below_drewN | with_reducible apply Below.alloc | with_reducible apply Below.setCell | (with_reducible refine Below.trans ?_ (Below.mono (by assumption) ?_)) | (simp; done) | (simp; omega) | omega | with_reducible apply le_size_alloc | with_reducible apply le_size_drewN | with_reducible apply le_size_drew | with_reducible apply le_size_setCell | refine Nat.le_trans ?_ (Below.size (by assumption))))
  clear hb
  replace Cg : Hid (CR plE x40 Ag cg [(1, 3), (2, 0)]) := Cg.out.ext b
  replace B : Hid (Below w.heap.size w x40) := B.out.trans (b.mono B.out.size)
  clear b
  go_wp2_with fail
  refine (lat_any 2 0 _).mono ?_
  rintro e x41 ⟨rfl, hb⟩
  have b : Below x40.heap.size x40 x41 := (by repeat' (first | with_reducible exact Below.refl _ _ | with_reducible assumption | with_reducible apply Below.drew | with_reducible apply below_drewN | with_reducible apply Below.alloc | with_reducible apply Below.setCell | (with_reducible refine Below.trans ?_ (Below.mono (by assumption) ?_)) | (simp; done) | (simp; omega) | omega | with_reducible apply le_size_alloc | with_reducible apply le_size_drewN | with_reducible apply le_size_drew | with_reducible apply le_size_setCell | refine Nat.le_trans ?_ (Below.size (by assumption))))
  clear hb
  replace Cg : Hid (CR plE x41 Ag cg [(1, 3), (2, 0)]) := Cg.out.ext b
  replace B : Hid (Below w.heap.size w x41) := B.out.trans (b.mono B.out.size)
  clear b
  go_wp2_with fail
  refine (places_any Ag (some ⟨x41.heap.size, 0, none⟩) cg 2 [(1, 3), (2, 0)] [(1, 3), (2, 0)] _ (Cg.out.1.ext (by repeat' (first | with_reducible exact Below.refl _ _ | with_reducible assumption | with_reducible apply Below.drew | with_reducible apply below_drewN | with_reducible apply Below.alloc | with_reducible apply Below.setCell | (with_reducible refine Below.trans ?_ (Below.mono (by assumption) ?_)) | (simp; done) | (simp; omega) | omega | with_reducible apply le_size_alloc | with_reducible apply le_size_drewN | with_reducible apply le_size_drew | with_reducible apply le_size_setCell | refine Nat.le_trans ?_ (Below.size (by assumption))))) (SR.of_blk (E := plE) (l := [(1, 3), (2, 0)]) (t := 24) (Blk.new_ rfl rfl)) (by simp) (by simp)).mono ?_
  rw [decide_eq_true rfl]
  rintro e x42 ⟨rfl, hb⟩
  have b : Below x41.heap.size x41 x42 := (by repeat' (first | with_reducible exact Below.refl _ _ | with_reducible assumption | with_reducible apply Below.drew | with_reducible apply below_drewN | with_reducible apply Below.alloc | with_reducible apply Below.setCell | (with_reducible refine Below.trans ?_ (Below.mono (by assumption) ?_)) | (simp; done) | (simp; omega) | omega | with_reducible apply le_size_alloc | with_reducible apply le_size_drewN | with_reducible apply le_size_drew | with_reducible apply le_size_setCell | refine Nat.le_trans ?_ (Below.size (by assumption))))
  clear hb
  replace Cg : Hid (CR plE x42 Ag cg [(1, 3), (2, 0)]) := Cg.out.ext b
  replace B : Hid (Below w.heap.size w x42) := B.out.trans (b.mono B.out.size)
  clear b
  go_wp2_with fail
  go_ret
  exact ⟨rfl, B.out⟩
end Go.Proofs.Ytbeddhamnefpiaa
