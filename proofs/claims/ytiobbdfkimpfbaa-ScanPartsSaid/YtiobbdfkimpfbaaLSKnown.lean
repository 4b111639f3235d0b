/- ScanKnown: the chapter's examples have the results given there. Written by gen_lsknown.py. -/
import Derived.Test.YtiobbdfkimpfbaaMgD
import Derived.Test.YtiobbdfkimpfbaaMgE
namespace Go.Proofs.Ytiobbdfkimpfbaa
set_option linter.unusedSimpArgs false
set_option linter.unusedVariables false
open Go.RowKit Go.Maps
open Go.ChangeShapes Go.WideShapes Go.ChangeAt Go.Joins

theorem srt_lit {l : List Int} (h : l.Pairwise (· ≤ ·)) : srt l = l := by
  unfold srt
  exact List.mergeSort_of_pairwise (h.imp (by intro a b h; simpa using h))
theorem same_lit (A B : Option Addr) (c d n : Nat) (xs : List Int) (w : World) (hx : xs.length = n) (ha : Sl w (.int .i64) A xs) (hb : Sl w (.int .i64) B xs) (l1 : n ≤ 1000) :
    Calls Try.prog 20 #[.slice A n c, .slice B n d] w fun e w' => e = .returned (.bool true) ∧ Below w.heap.size w w' := by
  have := SameInts_any A B c d xs xs w ha hb (by omega) (by omega)
  rw [hx, decide_eq_true rfl] at this
  exact this
/-- Lists that the region has made. -/
def LisS (n1 n2 : Nat) (xs ys : List Int) (rs : List Bool) (v : Value) (w : World) : Prop := ∃ A1 A2 g, v = .agg #[.slice A1 n1 n1, .slice A2 n2 n2, .slice (some ⟨g, 0, none⟩) 8 8] ∧ InMem w A1 A2 (some ⟨g, 0, none⟩) xs ys rs
theorem LisS.lasts (n1 n2 : Nat) (xs ys : List Int) (rs : List Bool) : (Fct.has (LisS n1 n2 xs ys rs)).lasts := fun _ _ _ ⟨A1, A2, g, e, h⟩ hb => ⟨A1, A2, g, e, h.ext hb⟩

set_option maxRecDepth 100000 in
set_option maxHeartbeats 32000000 in
theorem scanKnown_walk (w : World) : Calls Try.prog 5 #[] w fun e w' => e = .returned (.bool true) ∧ Below w.heap.size w w' := by
  go_enter Try.func5, Try.ntmps5
  have HB0 : Hid (Below w.heap.size w w) := Below.refl _ _
  go_wp2_with fail
  refine (lists_any none none none 0 0 0 0 0 ([] : List Int) _ Sl.nil (by simp) (by simp)).mono ?_
  rintro e x1 ⟨gx1, rfl, sx1, nx1, hx1⟩
  have Mn : Hid (InMem x1 none none (some ⟨gx1, 0, none⟩) ([] : List Int) ([] : List Int) [false, false, false, false, false, false, false, false]) := inMem_lit Sl.nil Sl.nil sx1 (by simp) (by simp) (by simp) (by simp) (by simp)
  clear  sx1 nx1
  have bw2 : Below w.heap.size w x1 := (by repeat' (first | with_reducible exact Below.refl _ _ | with_reducible assumption | with_reducible apply Below.drew | with_reducible apply below_drewN | with_reducible apply Below.alloc | with_reducible apply Below.setCell | (with_reducible refine Below.trans ?_ (Below.mono (by assumption) ?_)) | (simp; done) | (simp; omega) | omega | with_reducible apply le_size_alloc | with_reducible apply le_size_drewN | with_reducible apply le_size_drew | with_reducible apply le_size_setCell | with_reducible refine Nat.le_trans ?_ (Below.size (by assumption))))
  have HB_2 : Hid (Below w.heap.size w x1) := HB0.out.trans (bw2.mono HB0.out.size)
  clear bw2 hx1 HB0
  go_wp2_with fail
  obtain ⟨V3, hV3⟩ : ∃ V, x1.alloc (.cells #[.slice none 0 0, .slice none 0 0, .slice (some ⟨gx1, 0, none⟩) 8 8] 25) = V := ⟨_, rfl⟩
  have hbV3 : Below x1.heap.size x1 V3 := by rw [← hV3]; exact (Below.refl _ _).alloc (Nat.le_refl _) _
  have hkV3 : Hid (Blk V3 x1.heap.size 25 #[.slice none 0 0, .slice none 0 0, .slice (some ⟨gx1, 0, none⟩) 8 8]) := by show Blk _ _ _ _; rw [← hV3]; exact Blk.new_ rfl rfl
  have szV3 : V3.heap.size = x1.heap.size + 1 := by rw [← hV3]; simp
  (try rw [hV3])
  clear hV3
  have bw4 : Below x1.heap.size x1 V3 := (by repeat' (first | with_reducible exact Below.refl _ _ | with_reducible assumption | with_reducible apply Below.drew | with_reducible apply below_drewN | with_reducible apply Below.alloc | with_reducible apply Below.setCell | (with_reducible refine Below.trans ?_ (Below.mono (by assumption) ?_)) | (simp; done) | (simp; omega) | omega | with_reducible apply le_size_alloc | with_reducible apply le_size_drewN | with_reducible apply le_size_drew | with_reducible apply le_size_setCell | with_reducible refine Nat.le_trans ?_ (Below.size (by assumption))))
  have HB_4 : Hid (Below w.heap.size w V3) := HB_2.out.trans (bw4.mono HB_2.out.size)
  have Mn_4 : Hid (InMem V3 none none (some ⟨gx1, 0, none⟩) ([] : List Int) ([] : List Int) [false, false, false, false, false, false, false, false]) := Mn.out.ext bw4
  clear bw4 hbV3 HB_2 Mn
  obtain ⟨y5, hy5⟩ : ∃ Y, (((V3.alloc (.cells #[.int .i64 1] 3)).alloc (.cells #[.int .i64 2, .int .i64 3] 3)).alloc (.cells #[.int .i64 3] 3)) = Y := ⟨_, rfl⟩
  have by5 : Below V3.heap.size V3 y5 := by rw [← hy5]; exact (((Below.refl _ _).alloc (Nat.le_refl _) _).alloc (by simp) _).alloc (by simp; omega) _
  have ky5_0 : Blk y5 (x1.heap.size + 1) 3 #[.int .i64 1] := by rw [← szV3, ← hy5]; exact ((Blk.new_ (by simp) rfl).alloc_ _).alloc_ _
  have ky5_1 : Blk y5 (x1.heap.size + 1 + 1) 3 #[.int .i64 2, .int .i64 3] := by rw [← szV3, ← hy5]; exact (Blk.new_ (by simp) rfl).alloc_ _
  have ky5_2 : Blk y5 (x1.heap.size + 1 + 1 + 1) 3 #[.int .i64 3] := by rw [← szV3, ← hy5]; exact Blk.new_ (by simp) rfl
  (try rw [hy5])
  clear hy5 szV3
  have bw6 : Below V3.heap.size V3 y5 := (by repeat' (first | with_reducible exact Below.refl _ _ | with_reducible assumption | with_reducible apply Below.drew | with_reducible apply below_drewN | with_reducible apply Below.alloc | with_reducible apply Below.setCell | (with_reducible refine Below.trans ?_ (Below.mono (by assumption) ?_)) | (simp; done) | (simp; omega) | omega | with_reducible apply le_size_alloc | with_reducible apply le_size_drewN | with_reducible apply le_size_drew | with_reducible apply le_size_setCell | with_reducible refine Nat.le_trans ?_ (Below.size (by assumption))))
  have HB_6 : Hid (Below w.heap.size w y5) := HB_4.out.trans (bw6.mono HB_4.out.size)
  have Mn_6 : Hid (InMem y5 none none (some ⟨gx1, 0, none⟩) ([] : List Int) ([] : List Int) [false, false, false, false, false, false, false, false]) := Mn_4.out.ext bw6
  have n_6 : Hid (Blk y5 x1.heap.size 25 #[.slice none 0 0, .slice none 0 0, .slice (some ⟨gx1, 0, none⟩) 8 8]) := hkV3.out.below_ bw6 hkV3.out.lt
  clear bw6 by5 HB_4 Mn_4 hkV3
  refine (lists_any (some ⟨x1.heap.size + 1, 0, none⟩) (some ⟨x1.heap.size + 1 + 1, 0, none⟩) (some ⟨x1.heap.size + 1 + 1 + 1, 0, none⟩) 1 2 1 2 1 [3] _ (Sl.of_lit (t := 3) (xs := [3]) ky5_2) (by simp) (by simp)).mono ?_
  rintro e x7 ⟨gx7, rfl, sx7, nx7, hx7⟩
  have Ma : Hid (InMem x7 (some ⟨x1.heap.size + 1, 0, none⟩) (some ⟨x1.heap.size + 1 + 1, 0, none⟩) (some ⟨gx7, 0, none⟩) [1] [2, 3] [false, false, false, true, false, false, false, false]) := inMem_lit (Sl.of_lit (t := 3) (xs := [1]) (ky5_0.below_ hx7 ky5_0.lt)) (Sl.of_lit (t := 3) (xs := [2, 3]) (ky5_1.below_ hx7 ky5_1.lt)) sx7 (by simp) (by simp) (by simp) (by simp) (by simp)
  clear ky5_0 ky5_1 ky5_2 sx7 nx7
  have bw8 : Below y5.heap.size y5 x7 := (by repeat' (first | with_reducible exact Below.refl _ _ | with_reducible assumption | with_reducible apply Below.drew | with_reducible apply below_drewN | with_reducible apply Below.alloc | with_reducible apply Below.setCell | (with_reducible refine Below.trans ?_ (Below.mono (by assumption) ?_)) | (simp; done) | (simp; omega) | omega | with_reducible apply le_size_alloc | with_reducible apply le_size_drewN | with_reducible apply le_size_drew | with_reducible apply le_size_setCell | with_reducible refine Nat.le_trans ?_ (Below.size (by assumption))))
  have HB_8 : Hid (Below w.heap.size w x7) := HB_6.out.trans (bw8.mono HB_6.out.size)
  have Mn_8 : Hid (InMem x7 none none (some ⟨gx1, 0, none⟩) ([] : List Int) ([] : List Int) [false, false, false, false, false, false, false, false]) := Mn_6.out.ext bw8
  have n_8 : Hid (Blk x7 x1.heap.size 25 #[.slice none 0 0, .slice none 0 0, .slice (some ⟨gx1, 0, none⟩) 8 8]) := n_6.out.below_ bw8 n_6.out.lt
  clear bw8 hx7 HB_6 Mn_6 n_6
  go_wp2_with fail
  obtain ⟨y9, hy9⟩ : ∃ Y, ((x7.alloc (.cells #[.int .i64 3, .int .i64 1] 3)).alloc (.cells #[.int .i64 2] 3)) = Y := ⟨_, rfl⟩
  have by9 : Below x7.heap.size x7 y9 := by rw [← hy9]; exact ((Below.refl _ _).alloc (Nat.le_refl _) _).alloc (by simp) _
  have ky9_0 : Blk y9 (x7.heap.size) 3 #[.int .i64 3, .int .i64 1] := by rw [← hy9]; exact (Blk.new_ (by simp) rfl).alloc_ _
  have ky9_1 : Blk y9 (x7.heap.size + 1) 3 #[.int .i64 2] := by rw [← hy9]; exact Blk.new_ (by simp) rfl
  (try rw [hy9])
  clear hy9
  have bw10 : Below x7.heap.size x7 y9 := (by repeat' (first | with_reducible exact Below.refl _ _ | with_reducible assumption | with_reducible apply Below.drew | with_reducible apply below_drewN | with_reducible apply Below.alloc | with_reducible apply Below.setCell | (with_reducible refine Below.trans ?_ (Below.mono (by assumption) ?_)) | (simp; done) | (simp; omega) | omega | with_reducible apply le_size_alloc | with_reducible apply le_size_drewN | with_reducible apply le_size_drew | with_reducible apply le_size_setCell | with_reducible refine Nat.le_trans ?_ (Below.size (by assumption))))
  have HB_10 : Hid (Below w.heap.size w y9) := HB_8.out.trans (bw10.mono HB_8.out.size)
  have Mn_10 : Hid (InMem y9 none none (some ⟨gx1, 0, none⟩) ([] : List Int) ([] : List Int) [false, false, false, false, false, false, false, false]) := Mn_8.out.ext bw10
  have n_10 : Hid (Blk y9 x1.heap.size 25 #[.slice none 0 0, .slice none 0 0, .slice (some ⟨gx1, 0, none⟩) 8 8]) := n_8.out.below_ bw10 n_8.out.lt
  have Ma_10 : Hid (InMem y9 (some ⟨x1.heap.size + 1, 0, none⟩) (some ⟨x1.heap.size + 1 + 1, 0, none⟩) (some ⟨gx7, 0, none⟩) [1] [2, 3] [false, false, false, true, false, false, false, false]) := Ma.out.ext bw10
  clear bw10 by9 HB_8 Mn_8 n_8 Ma
  refine (lists_any (some ⟨x7.heap.size, 0, none⟩) (some ⟨x7.heap.size + 1, 0, none⟩) none 2 1 2 1 0 ([] : List Int) _ Sl.nil (by simp) (by simp)).mono ?_
  rintro e x11 ⟨gx11, rfl, sx11, nx11, hx11⟩
  have Mb : Hid (InMem x11 (some ⟨x7.heap.size, 0, none⟩) (some ⟨x7.heap.size + 1, 0, none⟩) (some ⟨gx11, 0, none⟩) [3, 1] [2] [false, false, false, false, false, false, false, false]) := inMem_lit (Sl.of_lit (t := 3) (xs := [3, 1]) (ky9_0.below_ hx11 ky9_0.lt)) (Sl.of_lit (t := 3) (xs := [2]) (ky9_1.below_ hx11 ky9_1.lt)) sx11 (by simp) (by simp) (by simp) (by simp) (by simp)
  clear ky9_0 ky9_1 sx11 nx11
  have bw12 : Below y9.heap.size y9 x11 := (by repeat' (first | with_reducible exact Below.refl _ _ | with_reducible assumption | with_reducible apply Below.drew | with_reducible apply below_drewN | with_reducible apply Below.alloc | with_reducible apply Below.setCell | (with_reducible refine Below.trans ?_ (Below.mono (by assumption) ?_)) | (simp; done) | (simp; omega) | omega | with_reducible apply le_size_alloc | with_reducible apply le_size_drewN | with_reducible apply le_size_drew | with_reducible apply le_size_setCell | with_reducible refine Nat.le_trans ?_ (Below.size (by assumption))))
  have HB_12 : Hid (Below w.heap.size w x11) := HB_10.out.trans (bw12.mono HB_10.out.size)
  have Mn_12 : Hid (InMem x11 none none (some ⟨gx1, 0, none⟩) ([] : List Int) ([] : List Int) [false, false, false, false, false, false, false, false]) := Mn_10.out.ext bw12
  have n_12 : Hid (Blk x11 x1.heap.size 25 #[.slice none 0 0, .slice none 0 0, .slice (some ⟨gx1, 0, none⟩) 8 8]) := n_10.out.below_ bw12 n_10.out.lt
  have Ma_12 : Hid (InMem x11 (some ⟨x1.heap.size + 1, 0, none⟩) (some ⟨x1.heap.size + 1 + 1, 0, none⟩) (some ⟨gx7, 0, none⟩) [1] [2, 3] [false, false, false, true, false, false, false, false]) := Ma_10.out.ext bw12
  clear bw12 hx11 HB_10 Mn_10 n_10 Ma_10
  go_wp2_with fail
  have Q13 : fullS 2 [1] [2, 3] [false, false, false, true, false, false, false, false] = ⟨2, 3, [3, 1], [2], [false, false, false, false, false, false, false, false], 0⟩ := by kernel_rfl
  refine (steps_any (some ⟨x1.heap.size + 1, 0, none⟩) (some ⟨x1.heap.size + 1 + 1, 0, none⟩) (some ⟨gx7, 0, none⟩) (some ⟨x7.heap.size, 0, none⟩) (some ⟨x7.heap.size + 1, 0, none⟩) (some ⟨gx11, 0, none⟩) 1 2 8 2 1 8 [1] [2, 3] [3, 1] [2] [false, false, false, true, false, false, false, false] [false, false, false, false, false, false, false, false] 2 2 3 _ Ma_12.out Mb.out Q13 (by simp) (by simp) (by simp)).mono ?_
  rintro e x14 ⟨rfl, hx14⟩
  have bw15 : Below x11.heap.size x11 x14 := (by repeat' (first | with_reducible exact Below.refl _ _ | with_reducible assumption | with_reducible apply Below.drew | with_reducible apply below_drewN | with_reducible apply Below.alloc | with_reducible apply Below.setCell | (with_reducible refine Below.trans ?_ (Below.mono (by assumption) ?_)) | (simp; done) | (simp; omega) | omega | with_reducible apply le_size_alloc | with_reducible apply le_size_drewN | with_reducible apply le_size_drew | with_reducible apply le_size_setCell | with_reducible refine Nat.le_trans ?_ (Below.size (by assumption))))
  have HB_15 : Hid (Below w.heap.size w x14) := HB_12.out.trans (bw15.mono HB_12.out.size)
  have Mn_15 : Hid (InMem x14 none none (some ⟨gx1, 0, none⟩) ([] : List Int) ([] : List Int) [false, false, false, false, false, false, false, false]) := Mn_12.out.ext bw15
  have n_15 : Hid (Blk x14 x1.heap.size 25 #[.slice none 0 0, .slice none 0 0, .slice (some ⟨gx1, 0, none⟩) 8 8]) := n_12.out.below_ bw15 n_12.out.lt
  have Ma_15 : Hid (InMem x14 (some ⟨x1.heap.size + 1, 0, none⟩) (some ⟨x1.heap.size + 1 + 1, 0, none⟩) (some ⟨gx7, 0, none⟩) [1] [2, 3] [false, false, false, true, false, false, false, false]) := Ma_12.out.ext bw15
  have Mb_15 : Hid (InMem x14 (some ⟨x7.heap.size, 0, none⟩) (some ⟨x7.heap.size + 1, 0, none⟩) (some ⟨gx11, 0, none⟩) [3, 1] [2] [false, false, false, false, false, false, false, false]) := Mb.out.ext bw15
  clear bw15 hx14 HB_12 Mn_12 n_12 Ma_12 Mb
  clear Q13
  clear Ma_15
  clear Mb_15
  go_wp2_with fail
  obtain ⟨y16, hy16⟩ : ∃ Y, (((x14.alloc (.cells #[.int .i64 1] 3)).alloc (.cells #[.int .i64 3, .int .i64 2] 3)).alloc (.cells #[.int .i64 3] 3)) = Y := ⟨_, rfl⟩
  have by16 : Below x14.heap.size x14 y16 := by rw [← hy16]; exact (((Below.refl _ _).alloc (Nat.le_refl _) _).alloc (by simp) _).alloc (by simp; omega) _
  have ky16_0 : Blk y16 (x14.heap.size) 3 #[.int .i64 1] := by rw [← hy16]; exact ((Blk.new_ (by simp) rfl).alloc_ _).alloc_ _
  have ky16_1 : Blk y16 (x14.heap.size + 1) 3 #[.int .i64 3, .int .i64 2] := by rw [← hy16]; exact (Blk.new_ (by simp) rfl).alloc_ _
  have ky16_2 : Blk y16 (x14.heap.size + 1 + 1) 3 #[.int .i64 3] := by rw [← hy16]; exact Blk.new_ (by simp) rfl
  (try rw [hy16])
  clear hy16
  have bw17 : Below x14.heap.size x14 y16 := (by repeat' (first | with_reducible exact Below.refl _ _ | with_reducible assumption | with_reducible apply Below.drew | with_reducible apply below_drewN | with_reducible apply Below.alloc | with_reducible apply Below.setCell | (with_reducible refine Below.trans ?_ (Below.mono (by assumption) ?_)) | (simp; done) | (simp; omega) | omega | with_reducible apply le_size_alloc | with_reducible apply le_size_drewN | with_reducible apply le_size_drew | with_reducible apply le_size_setCell | with_reducible refine Nat.le_trans ?_ (Below.size (by assumption))))
  have HB_17 : Hid (Below w.heap.size w y16) := HB_15.out.trans (bw17.mono HB_15.out.size)
  have Mn_17 : Hid (InMem y16 none none (some ⟨gx1, 0, none⟩) ([] : List Int) ([] : List Int) [false, false, false, false, false, false, false, false]) := Mn_15.out.ext bw17
  have n_17 : Hid (Blk y16 x1.heap.size 25 #[.slice none 0 0, .slice none 0 0, .slice (some ⟨gx1, 0, none⟩) 8 8]) := n_15.out.below_ bw17 n_15.out.lt
  clear bw17 by16 HB_15 Mn_15 n_15
  refine (lists_any (some ⟨x14.heap.size, 0, none⟩) (some ⟨x14.heap.size + 1, 0, none⟩) (some ⟨x14.heap.size + 1 + 1, 0, none⟩) 1 2 1 2 1 [3] _ (Sl.of_lit (t := 3) (xs := [3]) ky16_2) (by simp) (by simp)).mono ?_
  rintro e x18 ⟨gx18, rfl, sx18, nx18, hx18⟩
  have Mc : Hid (InMem x18 (some ⟨x14.heap.size, 0, none⟩) (some ⟨x14.heap.size + 1, 0, none⟩) (some ⟨gx18, 0, none⟩) [1] [3, 2] [false, false, false, true, false, false, false, false]) := inMem_lit (Sl.of_lit (t := 3) (xs := [1]) (ky16_0.below_ hx18 ky16_0.lt)) (Sl.of_lit (t := 3) (xs := [3, 2]) (ky16_1.below_ hx18 ky16_1.lt)) sx18 (by simp) (by simp) (by simp) (by simp) (by simp)
  clear ky16_0 ky16_1 ky16_2 sx18 nx18
  have bw19 : Below y16.heap.size y16 x18 := (by repeat' (first | with_reducible exact Below.refl _ _ | with_reducible assumption | with_reducible apply Below.drew | with_reducible apply below_drewN | with_reducible apply Below.alloc | with_reducible apply Below.setCell | (with_reducible refine Below.trans ?_ (Below.mono (by assumption) ?_)) | (simp; done) | (simp; omega) | omega | with_reducible apply le_size_alloc | with_reducible apply le_size_drewN | with_reducible apply le_size_drew | with_reducible apply le_size_setCell | with_reducible refine Nat.le_trans ?_ (Below.size (by assumption))))
  have HB_19 : Hid (Below w.heap.size w x18) := HB_17.out.trans (bw19.mono HB_17.out.size)
  have Mn_19 : Hid (InMem x18 none none (some ⟨gx1, 0, none⟩) ([] : List Int) ([] : List Int) [false, false, false, false, false, false, false, false]) := Mn_17.out.ext bw19
  have n_19 : Hid (Blk x18 x1.heap.size 25 #[.slice none 0 0, .slice none 0 0, .slice (some ⟨gx1, 0, none⟩) 8 8]) := n_17.out.below_ bw19 n_17.out.lt
  clear bw19 hx18 HB_17 Mn_17 n_17
  go_wp2_with fail
  obtain ⟨y20, hy20⟩ : ∃ Y, (((x18.alloc (.cells #[.int .i64 1] 3)).alloc (.cells #[.int .i64 3, .int .i64 2] 3)).alloc (.cells #[.int .i64 3] 3)) = Y := ⟨_, rfl⟩
  have by20 : Below x18.heap.size x18 y20 := by rw [← hy20]; exact (((Below.refl _ _).alloc (Nat.le_refl _) _).alloc (by simp) _).alloc (by simp; omega) _
  have ky20_0 : Blk y20 (x18.heap.size) 3 #[.int .i64 1] := by rw [← hy20]; exact ((Blk.new_ (by simp) rfl).alloc_ _).alloc_ _
  have ky20_1 : Blk y20 (x18.heap.size + 1) 3 #[.int .i64 3, .int .i64 2] := by rw [← hy20]; exact (Blk.new_ (by simp) rfl).alloc_ _
  have ky20_2 : Blk y20 (x18.heap.size + 1 + 1) 3 #[.int .i64 3] := by rw [← hy20]; exact Blk.new_ (by simp) rfl
  (try rw [hy20])
  clear hy20
  have bw21 : Below x18.heap.size x18 y20 := (by repeat' (first | with_reducible exact Below.refl _ _ | with_reducible assumption | with_reducible apply Below.drew | with_reducible apply below_drewN | with_reducible apply Below.alloc | with_reducible apply Below.setCell | (with_reducible refine Below.trans ?_ (Below.mono (by assumption) ?_)) | (simp; done) | (simp; omega) | omega | with_reducible apply le_size_alloc | with_reducible apply le_size_drewN | with_reducible apply le_size_drew | with_reducible apply le_size_setCell | with_reducible refine Nat.le_trans ?_ (Below.size (by assumption))))
  have HB_21 : Hid (Below w.heap.size w y20) := HB_19.out.trans (bw21.mono HB_19.out.size)
  have Mn_21 : Hid (InMem y20 none none (some ⟨gx1, 0, none⟩) ([] : List Int) ([] : List Int) [false, false, false, false, false, false, false, false]) := Mn_19.out.ext bw21
  have n_21 : Hid (Blk y20 x1.heap.size 25 #[.slice none 0 0, .slice none 0 0, .slice (some ⟨gx1, 0, none⟩) 8 8]) := n_19.out.below_ bw21 n_19.out.lt
  have Mc_21 : Hid (InMem y20 (some ⟨x14.heap.size, 0, none⟩) (some ⟨x14.heap.size + 1, 0, none⟩) (some ⟨gx18, 0, none⟩) [1] [3, 2] [false, false, false, true, false, false, false, false]) := Mc.out.ext bw21
  clear bw21 by20 HB_19 Mn_19 n_19 Mc
  refine (lists_any (some ⟨x18.heap.size, 0, none⟩) (some ⟨x18.heap.size + 1, 0, none⟩) (some ⟨x18.heap.size + 1 + 1, 0, none⟩) 1 2 1 2 1 [3] _ (Sl.of_lit (t := 3) (xs := [3]) ky20_2) (by simp) (by simp)).mono ?_
  rintro e x22 ⟨gx22, rfl, sx22, nx22, hx22⟩
  have Md : Hid (InMem x22 (some ⟨x18.heap.size, 0, none⟩) (some ⟨x18.heap.size + 1, 0, none⟩) (some ⟨gx22, 0, none⟩) [1] [3, 2] [false, false, false, true, false, false, false, false]) := inMem_lit (Sl.of_lit (t := 3) (xs := [1]) (ky20_0.below_ hx22 ky20_0.lt)) (Sl.of_lit (t := 3) (xs := [3, 2]) (ky20_1.below_ hx22 ky20_1.lt)) sx22 (by simp) (by simp) (by simp) (by simp) (by simp)
  clear ky20_0 ky20_1 ky20_2 sx22 nx22
  have bw23 : Below y20.heap.size y20 x22 := (by repeat' (first | with_reducible exact Below.refl _ _ | with_reducible assumption | with_reducible apply Below.drew | with_reducible apply below_drewN | with_reducible apply Below.alloc | with_reducible apply Below.setCell | (with_reducible refine Below.trans ?_ (Below.mono (by assumption) ?_)) | (simp; done) | (simp; omega) | omega | with_reducible apply le_size_alloc | with_reducible apply le_size_drewN | with_reducible apply le_size_drew | with_reducible apply le_size_setCell | with_reducible refine Nat.le_trans ?_ (Below.size (by assumption))))
  have HB_23 : Hid (Below w.heap.size w x22) := HB_21.out.trans (bw23.mono HB_21.out.size)
  have Mn_23 : Hid (InMem x22 none none (some ⟨gx1, 0, none⟩) ([] : List Int) ([] : List Int) [false, false, false, false, false, false, false, false]) := Mn_21.out.ext bw23
  have n_23 : Hid (Blk x22 x1.heap.size 25 #[.slice none 0 0, .slice none 0 0, .slice (some ⟨gx1, 0, none⟩) 8 8]) := n_21.out.below_ bw23 n_21.out.lt
  have Mc_23 : Hid (InMem x22 (some ⟨x14.heap.size, 0, none⟩) (some ⟨x14.heap.size + 1, 0, none⟩) (some ⟨gx18, 0, none⟩) [1] [3, 2] [false, false, false, true, false, false, false, false]) := Mc_21.out.ext bw23
  clear bw23 hx22 HB_21 Mn_21 n_21 Mc_21
  go_wp2_with fail
  have Q24 : fullS 2 [1] [3, 2] [false, false, false, true, false, false, false, false] = ⟨3, 2, [1], [3, 2], [false, false, false, true, false, false, false, false], 0⟩ := by kernel_rfl
  refine (steps_any (some ⟨x14.heap.size, 0, none⟩) (some ⟨x14.heap.size + 1, 0, none⟩) (some ⟨gx18, 0, none⟩) (some ⟨x18.heap.size, 0, none⟩) (some ⟨x18.heap.size + 1, 0, none⟩) (some ⟨gx22, 0, none⟩) 1 2 8 1 2 8 [1] [3, 2] [1] [3, 2] [false, false, false, true, false, false, false, false] [false, false, false, true, false, false, false, false] 2 3 2 _ Mc_23.out Md.out Q24 (by simp) (by simp) (by simp)).mono ?_
  rintro e x25 ⟨rfl, hx25⟩
  have bw26 : Below x22.heap.size x22 x25 := (by repeat' (first | with_reducible exact Below.refl _ _ | with_reducible assumption | with_reducible apply Below.drew | with_reducible apply below_drewN | with_reducible apply Below.alloc | with_reducible apply Below.setCell | (with_reducible refine Below.trans ?_ (Below.mono (by assumption) ?_)) | (simp; done) | (simp; omega) | omega | with_reducible apply le_size_alloc | with_reducible apply le_size_drewN | with_reducible apply le_size_drew | with_reducible apply le_size_setCell | with_reducible refine Nat.le_trans ?_ (Below.size (by assumption))))
  have HB_26 : Hid (Below w.heap.size w x25) := HB_23.out.trans (bw26.mono HB_23.out.size)
  have Mn_26 : Hid (InMem x25 none none (some ⟨gx1, 0, none⟩) ([] : List Int) ([] : List Int) [false, false, false, false, false, false, false, false]) := Mn_23.out.ext bw26
  have n_26 : Hid (Blk x25 x1.heap.size 25 #[.slice none 0 0, .slice none 0 0, .slice (some ⟨gx1, 0, none⟩) 8 8]) := n_23.out.below_ bw26 n_23.out.lt
  have Mc_26 : Hid (InMem x25 (some ⟨x14.heap.size, 0, none⟩) (some ⟨x14.heap.size + 1, 0, none⟩) (some ⟨gx18, 0, none⟩) [1] [3, 2] [false, false, false, true, false, false, false, false]) := Mc_23.out.ext bw26
  have Md_26 : Hid (InMem x25 (some ⟨x18.heap.size, 0, none⟩) (some ⟨x18.heap.size + 1, 0, none⟩) (some ⟨gx22, 0, none⟩) [1] [3, 2] [false, false, false, true, false, false, false, false]) := Md.out.ext bw26
  clear bw26 hx25 HB_23 Mn_23 n_23 Mc_23 Md
  clear Q24
  clear Mc_26
  clear Md_26
  have kn0 : x25.cell? ⟨x1.heap.size, 0, none⟩ = some (.slice none 0 0) := (n_26.out.cell_ 0).trans (by simp)
  have kn1 : x25.cell? ⟨x1.heap.size, 1, none⟩ = some (.slice none 0 0) := (n_26.out.cell_ 1).trans (by simp)
  have kn2 : x25.cell? ⟨x1.heap.size, 2, none⟩ = some (.slice (some ⟨gx1, 0, none⟩) 8 8) := (n_26.out.cell_ 2).trans (by simp)
  go_wp2_with fail
  clear kn0 kn1 kn2
  have Q27 : fullS 2 ([] : List Int) ([] : List Int) [false, false, false, false, false, false, false, false] = ⟨0, (-1), ([] : List Int), ([] : List Int), [false, false, false, false, false, false, false, false], 0⟩ := by kernel_rfl
  refine (steps_any none none (some ⟨gx1, 0, none⟩) none none (some ⟨gx1, 0, none⟩) 0 0 8 0 0 8 ([] : List Int) ([] : List Int) ([] : List Int) ([] : List Int) [false, false, false, false, false, false, false, false] [false, false, false, false, false, false, false, false] 2 0 (-1) _ Mn_26.out Mn_26.out Q27 (by simp) (by simp) (by simp)).mono ?_
  rintro e x28 ⟨rfl, hx28⟩
  have bw29 : Below x25.heap.size x25 x28 := (by repeat' (first | with_reducible exact Below.refl _ _ | with_reducible assumption | with_reducible apply Below.drew | with_reducible apply below_drewN | with_reducible apply Below.alloc | with_reducible apply Below.setCell | (with_reducible refine Below.trans ?_ (Below.mono (by assumption) ?_)) | (simp; done) | (simp; omega) | omega | with_reducible apply le_size_alloc | with_reducible apply le_size_drewN | with_reducible apply le_size_drew | with_reducible apply le_size_setCell | with_reducible refine Nat.le_trans ?_ (Below.size (by assumption))))
  have HB_29 : Hid (Below w.heap.size w x28) := HB_26.out.trans (bw29.mono HB_26.out.size)
  have Mn_29 : Hid (InMem x28 none none (some ⟨gx1, 0, none⟩) ([] : List Int) ([] : List Int) [false, false, false, false, false, false, false, false]) := Mn_26.out.ext bw29
  have n_29 : Hid (Blk x28 x1.heap.size 25 #[.slice none 0 0, .slice none 0 0, .slice (some ⟨gx1, 0, none⟩) 8 8]) := n_26.out.below_ bw29 n_26.out.lt
  clear bw29 hx28 HB_26 Mn_26 n_26
  clear Q27
  go_wp2_with fail
  obtain ⟨y30, hy30⟩ : ∃ Y, ((x28.alloc (.cells #[.int .i64 1] 3)).alloc (.cells #[.int .i64 2] 3)) = Y := ⟨_, rfl⟩
  have by30 : Below x28.heap.size x28 y30 := by rw [← hy30]; exact ((Below.refl _ _).alloc (Nat.le_refl _) _).alloc (by simp) _
  have ky30_0 : Blk y30 (x28.heap.size) 3 #[.int .i64 1] := by rw [← hy30]; exact (Blk.new_ (by simp) rfl).alloc_ _
  have ky30_1 : Blk y30 (x28.heap.size + 1) 3 #[.int .i64 2] := by rw [← hy30]; exact Blk.new_ (by simp) rfl
  (try rw [hy30])
  clear hy30
  have bw31 : Below x28.heap.size x28 y30 := (by repeat' (first | with_reducible exact Below.refl _ _ | with_reducible assumption | with_reducible apply Below.drew | with_reducible apply below_drewN | with_reducible apply Below.alloc | with_reducible apply Below.setCell | (with_reducible refine Below.trans ?_ (Below.mono (by assumption) ?_)) | (simp; done) | (simp; omega) | omega | with_reducible apply le_size_alloc | with_reducible apply le_size_drewN | with_reducible apply le_size_drew | with_reducible apply le_size_setCell | with_reducible refine Nat.le_trans ?_ (Below.size (by assumption))))
  have HB_31 : Hid (Below w.heap.size w y30) := HB_29.out.trans (bw31.mono HB_29.out.size)
  have Mn_31 : Hid (InMem y30 none none (some ⟨gx1, 0, none⟩) ([] : List Int) ([] : List Int) [false, false, false, false, false, false, false, false]) := Mn_29.out.ext bw31
  have n_31 : Hid (Blk y30 x1.heap.size 25 #[.slice none 0 0, .slice none 0 0, .slice (some ⟨gx1, 0, none⟩) 8 8]) := n_29.out.below_ bw31 n_29.out.lt
  clear bw31 by30 HB_29 Mn_29 n_29
  refine (lists_any (some ⟨x28.heap.size, 0, none⟩) (some ⟨x28.heap.size + 1, 0, none⟩) none 1 1 1 1 0 ([] : List Int) _ Sl.nil (by simp) (by simp)).mono ?_
  rintro e x32 ⟨gx32, rfl, sx32, nx32, hx32⟩
  have Me : Hid (InMem x32 (some ⟨x28.heap.size, 0, none⟩) (some ⟨x28.heap.size + 1, 0, none⟩) (some ⟨gx32, 0, none⟩) [1] [2] [false, false, false, false, false, false, false, false]) := inMem_lit (Sl.of_lit (t := 3) (xs := [1]) (ky30_0.below_ hx32 ky30_0.lt)) (Sl.of_lit (t := 3) (xs := [2]) (ky30_1.below_ hx32 ky30_1.lt)) sx32 (by simp) (by simp) (by simp) (by simp) (by simp)
  clear ky30_0 ky30_1 sx32 nx32
  have bw33 : Below y30.heap.size y30 x32 := (by repeat' (first | with_reducible exact Below.refl _ _ | with_reducible assumption | with_reducible apply Below.drew | with_reducible apply below_drewN | with_reducible apply Below.alloc | with_reducible apply Below.setCell | (with_reducible refine Below.trans ?_ (Below.mono (by assumption) ?_)) | (simp; done) | (simp; omega) | omega | with_reducible apply le_size_alloc | with_reducible apply le_size_drewN | with_reducible apply le_size_drew | with_reducible apply le_size_setCell | with_reducible refine Nat.le_trans ?_ (Below.size (by assumption))))
  have HB_33 : Hid (Below w.heap.size w x32) := HB_31.out.trans (bw33.mono HB_31.out.size)
  have Mn_33 : Hid (InMem x32 none none (some ⟨gx1, 0, none⟩) ([] : List Int) ([] : List Int) [false, false, false, false, false, false, false, false]) := Mn_31.out.ext bw33
  have n_33 : Hid (Blk x32 x1.heap.size 25 #[.slice none 0 0, .slice none 0 0, .slice (some ⟨gx1, 0, none⟩) 8 8]) := n_31.out.below_ bw33 n_31.out.lt
  clear bw33 hx32 HB_31 Mn_31 n_31
  go_wp2_with fail
  obtain ⟨y34, hy34⟩ : ∃ Y, (x32.alloc (.cells #[.int .i64 1, .int .i64 2] 3)) = Y := ⟨_, rfl⟩
  have by34 : Below x32.heap.size x32 y34 := by rw [← hy34]; exact (Below.refl _ _).alloc (Nat.le_refl _) _
  have ky34_0 : Blk y34 (x32.heap.size) 3 #[.int .i64 1, .int .i64 2] := by rw [← hy34]; exact Blk.new_ (by simp) rfl
  (try rw [hy34])
  clear hy34
  have bw35 : Below x32.heap.size x32 y34 := (by repeat' (first | with_reducible exact Below.refl _ _ | with_reducible assumption | with_reducible apply Below.drew | with_reducible apply below_drewN | with_reducible apply Below.alloc | with_reducible apply Below.setCell | (with_reducible refine Below.trans ?_ (Below.mono (by assumption) ?_)) | (simp; done) | (simp; omega) | omega | with_reducible apply le_size_alloc | with_reducible apply le_size_drewN | with_reducible apply le_size_drew | with_reducible apply le_size_setCell | with_reducible refine Nat.le_trans ?_ (Below.size (by assumption))))
  have HB_35 : Hid (Below w.heap.size w y34) := HB_33.out.trans (bw35.mono HB_33.out.size)
  have Mn_35 : Hid (InMem y34 none none (some ⟨gx1, 0, none⟩) ([] : List Int) ([] : List Int) [false, false, false, false, false, false, false, false]) := Mn_33.out.ext bw35
  have n_35 : Hid (Blk y34 x1.heap.size 25 #[.slice none 0 0, .slice none 0 0, .slice (some ⟨gx1, 0, none⟩) 8 8]) := n_33.out.below_ bw35 n_33.out.lt
  have Me_35 : Hid (InMem y34 (some ⟨x28.heap.size, 0, none⟩) (some ⟨x28.heap.size + 1, 0, none⟩) (some ⟨gx32, 0, none⟩) [1] [2] [false, false, false, false, false, false, false, false]) := Me.out.ext bw35
  clear bw35 by34 HB_33 Mn_33 n_33 Me
  refine (lists_any none (some ⟨x32.heap.size, 0, none⟩) none 0 2 0 2 0 ([] : List Int) _ Sl.nil (by simp) (by simp)).mono ?_
  rintro e x36 ⟨gx36, rfl, sx36, nx36, hx36⟩
  have Mf : Hid (InMem x36 none (some ⟨x32.heap.size, 0, none⟩) (some ⟨gx36, 0, none⟩) ([] : List Int) [1, 2] [false, false, false, false, false, false, false, false]) := inMem_lit Sl.nil (Sl.of_lit (t := 3) (xs := [1, 2]) (ky34_0.below_ hx36 ky34_0.lt)) sx36 (by simp) (by simp) (by simp) (by simp) (by simp)
  clear ky34_0 sx36 nx36
  have bw37 : Below y34.heap.size y34 x36 := (by repeat' (first | with_reducible exact Below.refl _ _ | with_reducible assumption | with_reducible apply Below.drew | with_reducible apply below_drewN | with_reducible apply Below.alloc | with_reducible apply Below.setCell | (with_reducible refine Below.trans ?_ (Below.mono (by assumption) ?_)) | (simp; done) | (simp; omega) | omega | with_reducible apply le_size_alloc | with_reducible apply le_size_drewN | with_reducible apply le_size_drew | with_reducible apply le_size_setCell | with_reducible refine Nat.le_trans ?_ (Below.size (by assumption))))
  have HB_37 : Hid (Below w.heap.size w x36) := HB_35.out.trans (bw37.mono HB_35.out.size)
  have Mn_37 : Hid (InMem x36 none none (some ⟨gx1, 0, none⟩) ([] : List Int) ([] : List Int) [false, false, false, false, false, false, false, false]) := Mn_35.out.ext bw37
  have n_37 : Hid (Blk x36 x1.heap.size 25 #[.slice none 0 0, .slice none 0 0, .slice (some ⟨gx1, 0, none⟩) 8 8]) := n_35.out.below_ bw37 n_35.out.lt
  have Me_37 : Hid (InMem x36 (some ⟨x28.heap.size, 0, none⟩) (some ⟨x28.heap.size + 1, 0, none⟩) (some ⟨gx32, 0, none⟩) [1] [2] [false, false, false, false, false, false, false, false]) := Me_35.out.ext bw37
  clear bw37 hx36 HB_35 Mn_35 n_35 Me_35
  go_wp2_with fail
  have Q38 : fullS 5 [1] [2] [false, false, false, false, false, false, false, false] = ⟨1, 1, ([] : List Int), [1, 2], [false, false, false, false, false, false, false, false], 0⟩ := by kernel_rfl
  refine (steps_any (some ⟨x28.heap.size, 0, none⟩) (some ⟨x28.heap.size + 1, 0, none⟩) (some ⟨gx32, 0, none⟩) none (some ⟨x32.heap.size, 0, none⟩) (some ⟨gx36, 0, none⟩) 1 1 8 0 2 8 [1] [2] ([] : List Int) [1, 2] [false, false, false, false, false, false, false, false] [false, false, false, false, false, false, false, false] 5 1 1 _ Me_37.out Mf.out Q38 (by simp) (by simp) (by simp)).mono ?_
  rintro e x39 ⟨rfl, hx39⟩
  have bw40 : Below x36.heap.size x36 x39 := (by repeat' (first | with_reducible exact Below.refl _ _ | with_reducible assumption | with_reducible apply Below.drew | with_reducible apply below_drewN | with_reducible apply Below.alloc | with_reducible apply Below.setCell | (with_reducible refine Below.trans ?_ (Below.mono (by assumption) ?_)) | (simp; done) | (simp; omega) | omega | with_reducible apply le_size_alloc | with_reducible apply le_size_drewN | with_reducible apply le_size_drew | with_reducible apply le_size_setCell | with_reducible refine Nat.le_trans ?_ (Below.size (by assumption))))
  have HB_40 : Hid (Below w.heap.size w x39) := HB_37.out.trans (bw40.mono HB_37.out.size)
  have Mn_40 : Hid (InMem x39 none none (some ⟨gx1, 0, none⟩) ([] : List Int) ([] : List Int) [false, false, false, false, false, false, false, false]) := Mn_37.out.ext bw40
  have n_40 : Hid (Blk x39 x1.heap.size 25 #[.slice none 0 0, .slice none 0 0, .slice (some ⟨gx1, 0, none⟩) 8 8]) := n_37.out.below_ bw40 n_37.out.lt
  have Me_40 : Hid (InMem x39 (some ⟨x28.heap.size, 0, none⟩) (some ⟨x28.heap.size + 1, 0, none⟩) (some ⟨gx32, 0, none⟩) [1] [2] [false, false, false, false, false, false, false, false]) := Me_37.out.ext bw40
  have Mf_40 : Hid (InMem x39 none (some ⟨x32.heap.size, 0, none⟩) (some ⟨gx36, 0, none⟩) ([] : List Int) [1, 2] [false, false, false, false, false, false, false, false]) := Mf.out.ext bw40
  clear bw40 hx39 HB_37 Mn_37 n_37 Me_37 Mf
  clear Q38
  clear Me_40
  clear Mf_40
  go_wp2_with fail
  obtain ⟨y41, hy41⟩ : ∃ Y, (x39.alloc (.cells #[.int .i64 2] 3)) = Y := ⟨_, rfl⟩
  have by41 : Below x39.heap.size x39 y41 := by rw [← hy41]; exact (Below.refl _ _).alloc (Nat.le_refl _) _
  have ky41_0 : Blk y41 (x39.heap.size) 3 #[.int .i64 2] := by rw [← hy41]; exact Blk.new_ (by simp) rfl
  (try rw [hy41])
  clear hy41
  have bw42 : Below x39.heap.size x39 y41 := (by repeat' (first | with_reducible exact Below.refl _ _ | with_reducible assumption | with_reducible apply Below.drew | with_reducible apply below_drewN | with_reducible apply Below.alloc | with_reducible apply Below.setCell | (with_reducible refine Below.trans ?_ (Below.mono (by assumption) ?_)) | (simp; done) | (simp; omega) | omega | with_reducible apply le_size_alloc | with_reducible apply le_size_drewN | with_reducible apply le_size_drew | with_reducible apply le_size_setCell | with_reducible refine Nat.le_trans ?_ (Below.size (by assumption))))
  have HB_42 : Hid (Below w.heap.size w y41) := HB_40.out.trans (bw42.mono HB_40.out.size)
  have Mn_42 : Hid (InMem y41 none none (some ⟨gx1, 0, none⟩) ([] : List Int) ([] : List Int) [false, false, false, false, false, false, false, false]) := Mn_40.out.ext bw42
  have n_42 : Hid (Blk y41 x1.heap.size 25 #[.slice none 0 0, .slice none 0 0, .slice (some ⟨gx1, 0, none⟩) 8 8]) := n_40.out.below_ bw42 n_40.out.lt
  clear bw42 by41 HB_40 Mn_40 n_40
  refine (lists_any none (some ⟨x39.heap.size, 0, none⟩) none 0 1 0 1 0 ([] : List Int) _ Sl.nil (by simp) (by simp)).mono ?_
  rintro e x43 ⟨gx43, rfl, sx43, nx43, hx43⟩
  have Mg : Hid (InMem x43 none (some ⟨x39.heap.size, 0, none⟩) (some ⟨gx43, 0, none⟩) ([] : List Int) [2] [false, false, false, false, false, false, false, false]) := inMem_lit Sl.nil (Sl.of_lit (t := 3) (xs := [2]) (ky41_0.below_ hx43 ky41_0.lt)) sx43 (by simp) (by simp) (by simp) (by simp) (by simp)
  clear ky41_0 sx43 nx43
  have bw44 : Below y41.heap.size y41 x43 := (by repeat' (first | with_reducible exact Below.refl _ _ | with_reducible assumption | with_reducible apply Below.drew | with_reducible apply below_drewN | with_reducible apply Below.alloc | with_reducible apply Below.setCell | (with_reducible refine Below.trans ?_ (Below.mono (by assumption) ?_)) | (simp; done) | (simp; omega) | omega | with_reducible apply le_size_alloc | with_reducible apply le_size_drewN | with_reducible apply le_size_drew | with_reducible apply le_size_setCell | with_reducible refine Nat.le_trans ?_ (Below.size (by assumption))))
  have HB_44 : Hid (Below w.heap.size w x43) := HB_42.out.trans (bw44.mono HB_42.out.size)
  have Mn_44 : Hid (InMem x43 none none (some ⟨gx1, 0, none⟩) ([] : List Int) ([] : List Int) [false, false, false, false, false, false, false, false]) := Mn_42.out.ext bw44
  have n_44 : Hid (Blk x43 x1.heap.size 25 #[.slice none 0 0, .slice none 0 0, .slice (some ⟨gx1, 0, none⟩) 8 8]) := n_42.out.below_ bw44 n_42.out.lt
  clear bw44 hx43 HB_42 Mn_42 n_42
  go_wp2_with fail
  obtain ⟨y45, hy45⟩ : ∃ Y, (x43.alloc (.cells #[.int .i64 2] 3)) = Y := ⟨_, rfl⟩
  have by45 : Below x43.heap.size x43 y45 := by rw [← hy45]; exact (Below.refl _ _).alloc (Nat.le_refl _) _
  have ky45_0 : Blk y45 (x43.heap.size) 3 #[.int .i64 2] := by rw [← hy45]; exact Blk.new_ (by simp) rfl
  (try rw [hy45])
  clear hy45
  have bw46 : Below x43.heap.size x43 y45 := (by repeat' (first | with_reducible exact Below.refl _ _ | with_reducible assumption | with_reducible apply Below.drew | with_reducible apply below_drewN | with_reducible apply Below.alloc | with_reducible apply Below.setCell | (with_reducible refine Below.trans ?_ (Below.mono (by assumption) ?_)) | (simp; done) | (simp; omega) | omega | with_reducible apply le_size_alloc | with_reducible apply le_size_drewN | with_reducible apply le_size_drew | with_reducible apply le_size_setCell | with_reducible refine Nat.le_trans ?_ (Below.size (by assumption))))
  have HB_46 : Hid (Below w.heap.size w y45) := HB_44.out.trans (bw46.mono HB_44.out.size)
  have Mn_46 : Hid (InMem y45 none none (some ⟨gx1, 0, none⟩) ([] : List Int) ([] : List Int) [false, false, false, false, false, false, false, false]) := Mn_44.out.ext bw46
  have n_46 : Hid (Blk y45 x1.heap.size 25 #[.slice none 0 0, .slice none 0 0, .slice (some ⟨gx1, 0, none⟩) 8 8]) := n_44.out.below_ bw46 n_44.out.lt
  have Mg_46 : Hid (InMem y45 none (some ⟨x39.heap.size, 0, none⟩) (some ⟨gx43, 0, none⟩) ([] : List Int) [2] [false, false, false, false, false, false, false, false]) := Mg.out.ext bw46
  clear bw46 by45 HB_44 Mn_44 n_44 Mg
  refine (lists_any none (some ⟨x43.heap.size, 0, none⟩) none 0 1 0 1 0 ([] : List Int) _ Sl.nil (by simp) (by simp)).mono ?_
  rintro e x47 ⟨gx47, rfl, sx47, nx47, hx47⟩
  have Mh : Hid (InMem x47 none (some ⟨x43.heap.size, 0, none⟩) (some ⟨gx47, 0, none⟩) ([] : List Int) [2] [false, false, false, false, false, false, false, false]) := inMem_lit Sl.nil (Sl.of_lit (t := 3) (xs := [2]) (ky45_0.below_ hx47 ky45_0.lt)) sx47 (by simp) (by simp) (by simp) (by simp) (by simp)
  clear ky45_0 sx47 nx47
  have bw48 : Below y45.heap.size y45 x47 := (by repeat' (first | with_reducible exact Below.refl _ _ | with_reducible assumption | with_reducible apply Below.drew | with_reducible apply below_drewN | with_reducible apply Below.alloc | with_reducible apply Below.setCell | (with_reducible refine Below.trans ?_ (Below.mono (by assumption) ?_)) | (simp; done) | (simp; omega) | omega | with_reducible apply le_size_alloc | with_reducible apply le_size_drewN | with_reducible apply le_size_drew | with_reducible apply le_size_setCell | with_reducible refine Nat.le_trans ?_ (Below.size (by assumption))))
  have HB_48 : Hid (Below w.heap.size w x47) := HB_46.out.trans (bw48.mono HB_46.out.size)
  have Mn_48 : Hid (InMem x47 none none (some ⟨gx1, 0, none⟩) ([] : List Int) ([] : List Int) [false, false, false, false, false, false, false, false]) := Mn_46.out.ext bw48
  have n_48 : Hid (Blk x47 x1.heap.size 25 #[.slice none 0 0, .slice none 0 0, .slice (some ⟨gx1, 0, none⟩) 8 8]) := n_46.out.below_ bw48 n_46.out.lt
  have Mg_48 : Hid (InMem x47 none (some ⟨x39.heap.size, 0, none⟩) (some ⟨gx43, 0, none⟩) ([] : List Int) [2] [false, false, false, false, false, false, false, false]) := Mg_46.out.ext bw48
  clear bw48 hx47 HB_46 Mn_46 n_46 Mg_46
  go_wp2_with fail
  have Q49 : fullS 5 ([] : List Int) [2] [false, false, false, false, false, false, false, false] = ⟨3, 2, ([] : List Int), [2], [false, false, false, false, false, false, false, false], 0⟩ := by kernel_rfl
  refine (steps_any none (some ⟨x39.heap.size, 0, none⟩) (some ⟨gx43, 0, none⟩) none (some ⟨x43.heap.size, 0, none⟩) (some ⟨gx47, 0, none⟩) 0 1 8 0 1 8 ([] : List Int) [2] ([] : List Int) [2] [false, false, false, false, false, false, false, false] [false, false, false, false, false, false, false, false] 5 3 2 _ Mg_48.out Mh.out Q49 (by simp) (by simp) (by simp)).mono ?_
  rintro e x50 ⟨rfl, hx50⟩
  have bw51 : Below x47.heap.size x47 x50 := (by repeat' (first | with_reducible exact Below.refl _ _ | with_reducible assumption | with_reducible apply Below.drew | with_reducible apply below_drewN | with_reducible apply Below.alloc | with_reducible apply Below.setCell | (with_reducible refine Below.trans ?_ (Below.mono (by assumption) ?_)) | (simp; done) | (simp; omega) | omega | with_reducible apply le_size_alloc | with_reducible apply le_size_drewN | with_reducible apply le_size_drew | with_reducible apply le_size_setCell | with_reducible refine Nat.le_trans ?_ (Below.size (by assumption))))
  have HB_51 : Hid (Below w.heap.size w x50) := HB_48.out.trans (bw51.mono HB_48.out.size)
  have Mn_51 : Hid (InMem x50 none none (some ⟨gx1, 0, none⟩) ([] : List Int) ([] : List Int) [false, false, false, false, false, false, false, false]) := Mn_48.out.ext bw51
  have n_51 : Hid (Blk x50 x1.heap.size 25 #[.slice none 0 0, .slice none 0 0, .slice (some ⟨gx1, 0, none⟩) 8 8]) := n_48.out.below_ bw51 n_48.out.lt
  have Mg_51 : Hid (InMem x50 none (some ⟨x39.heap.size, 0, none⟩) (some ⟨gx43, 0, none⟩) ([] : List Int) [2] [false, false, false, false, false, false, false, false]) := Mg_48.out.ext bw51
  have Mh_51 : Hid (InMem x50 none (some ⟨x43.heap.size, 0, none⟩) (some ⟨gx47, 0, none⟩) ([] : List Int) [2] [false, false, false, false, false, false, false, false]) := Mh.out.ext bw51
  clear bw51 hx50 HB_48 Mn_48 n_48 Mg_48 Mh
  clear Q49
  clear Mg_51
  clear Mh_51
  go_wp2_with fail
  obtain ⟨y52, hy52⟩ : ∃ Y, (((x50.alloc (.cells #[.int .i64 1] 3)).alloc (.cells #[.int .i64 2] 3)).alloc (.cells #[.int .i64 2] 3)) = Y := ⟨_, rfl⟩
  have by52 : Below x50.heap.size x50 y52 := by rw [← hy52]; exact (((Below.refl _ _).alloc (Nat.le_refl _) _).alloc (by simp) _).alloc (by simp; omega) _
  have ky52_0 : Blk y52 (x50.heap.size) 3 #[.int .i64 1] := by rw [← hy52]; exact ((Blk.new_ (by simp) rfl).alloc_ _).alloc_ _
  have ky52_1 : Blk y52 (x50.heap.size + 1) 3 #[.int .i64 2] := by rw [← hy52]; exact (Blk.new_ (by simp) rfl).alloc_ _
  have ky52_2 : Blk y52 (x50.heap.size + 1 + 1) 3 #[.int .i64 2] := by rw [← hy52]; exact Blk.new_ (by simp) rfl
  (try rw [hy52])
  clear hy52
  have bw53 : Below x50.heap.size x50 y52 := (by repeat' (first | with_reducible exact Below.refl _ _ | with_reducible assumption | with_reducible apply Below.drew | with_reducible apply below_drewN | with_reducible apply Below.alloc | with_reducible apply Below.setCell | (with_reducible refine Below.trans ?_ (Below.mono (by assumption) ?_)) | (simp; done) | (simp; omega) | omega | with_reducible apply le_size_alloc | with_reducible apply le_size_drewN | with_reducible apply le_size_drew | with_reducible apply le_size_setCell | with_reducible refine Nat.le_trans ?_ (Below.size (by assumption))))
  have HB_53 : Hid (Below w.heap.size w y52) := HB_51.out.trans (bw53.mono HB_51.out.size)
  have Mn_53 : Hid (InMem y52 none none (some ⟨gx1, 0, none⟩) ([] : List Int) ([] : List Int) [false, false, false, false, false, false, false, false]) := Mn_51.out.ext bw53
  have n_53 : Hid (Blk y52 x1.heap.size 25 #[.slice none 0 0, .slice none 0 0, .slice (some ⟨gx1, 0, none⟩) 8 8]) := n_51.out.below_ bw53 n_51.out.lt
  clear bw53 by52 HB_51 Mn_51 n_51
  refine (lists_any (some ⟨x50.heap.size, 0, none⟩) (some ⟨x50.heap.size + 1, 0, none⟩) (some ⟨x50.heap.size + 1 + 1, 0, none⟩) 1 1 1 1 1 [2] _ (Sl.of_lit (t := 3) (xs := [2]) ky52_2) (by simp) (by simp)).mono ?_
  rintro e x54 ⟨gx54, rfl, sx54, nx54, hx54⟩
  have Mi : Hid (InMem x54 (some ⟨x50.heap.size, 0, none⟩) (some ⟨x50.heap.size + 1, 0, none⟩) (some ⟨gx54, 0, none⟩) [1] [2] [false, false, true, false, false, false, false, false]) := inMem_lit (Sl.of_lit (t := 3) (xs := [1]) (ky52_0.below_ hx54 ky52_0.lt)) (Sl.of_lit (t := 3) (xs := [2]) (ky52_1.below_ hx54 ky52_1.lt)) sx54 (by simp) (by simp) (by simp) (by simp) (by simp)
  clear ky52_0 ky52_1 ky52_2 sx54 nx54
  have bw55 : Below y52.heap.size y52 x54 := (by repeat' (first | with_reducible exact Below.refl _ _ | with_reducible assumption | with_reducible apply Below.drew | with_reducible apply below_drewN | with_reducible apply Below.alloc | with_reducible apply Below.setCell | (with_reducible refine Below.trans ?_ (Below.mono (by assumption) ?_)) | (simp; done) | (simp; omega) | omega | with_reducible apply le_size_alloc | with_reducible apply le_size_drewN | with_reducible apply le_size_drew | with_reducible apply le_size_setCell | with_reducible refine Nat.le_trans ?_ (Below.size (by assumption))))
  have HB_55 : Hid (Below w.heap.size w x54) := HB_53.out.trans (bw55.mono HB_53.out.size)
  have Mn_55 : Hid (InMem x54 none none (some ⟨gx1, 0, none⟩) ([] : List Int) ([] : List Int) [false, false, false, false, false, false, false, false]) := Mn_53.out.ext bw55
  have n_55 : Hid (Blk x54 x1.heap.size 25 #[.slice none 0 0, .slice none 0 0, .slice (some ⟨gx1, 0, none⟩) 8 8]) := n_53.out.below_ bw55 n_53.out.lt
  clear bw55 hx54 HB_53 Mn_53 n_53
  go_wp2_with fail
  obtain ⟨y56, hy56⟩ : ∃ Y, (x54.alloc (.cells #[.int .i64 2, .int .i64 1] 3)) = Y := ⟨_, rfl⟩
  have by56 : Below x54.heap.size x54 y56 := by rw [← hy56]; exact (Below.refl _ _).alloc (Nat.le_refl _) _
  have ky56_0 : Blk y56 (x54.heap.size) 3 #[.int .i64 2, .int .i64 1] := by rw [← hy56]; exact Blk.new_ (by simp) rfl
  (try rw [hy56])
  clear hy56
  have bw57 : Below x54.heap.size x54 y56 := (by repeat' (first | with_reducible exact Below.refl _ _ | with_reducible assumption | with_reducible apply Below.drew | with_reducible apply below_drewN | with_reducible apply Below.alloc | with_reducible apply Below.setCell | (with_reducible refine Below.trans ?_ (Below.mono (by assumption) ?_)) | (simp; done) | (simp; omega) | omega | with_reducible apply le_size_alloc | with_reducible apply le_size_drewN | with_reducible apply le_size_drew | with_reducible apply le_size_setCell | with_reducible refine Nat.le_trans ?_ (Below.size (by assumption))))
  have HB_57 : Hid (Below w.heap.size w y56) := HB_55.out.trans (bw57.mono HB_55.out.size)
  have Mn_57 : Hid (InMem y56 none none (some ⟨gx1, 0, none⟩) ([] : List Int) ([] : List Int) [false, false, false, false, false, false, false, false]) := Mn_55.out.ext bw57
  have n_57 : Hid (Blk y56 x1.heap.size 25 #[.slice none 0 0, .slice none 0 0, .slice (some ⟨gx1, 0, none⟩) 8 8]) := n_55.out.below_ bw57 n_55.out.lt
  have Mi_57 : Hid (InMem y56 (some ⟨x50.heap.size, 0, none⟩) (some ⟨x50.heap.size + 1, 0, none⟩) (some ⟨gx54, 0, none⟩) [1] [2] [false, false, true, false, false, false, false, false]) := Mi.out.ext bw57
  clear bw57 by56 HB_55 Mn_55 n_55 Mi
  refine (lists_any (some ⟨x54.heap.size, 0, none⟩) none none 2 0 2 0 0 ([] : List Int) _ Sl.nil (by simp) (by simp)).mono ?_
  rintro e x58 ⟨gx58, rfl, sx58, nx58, hx58⟩
  have Mj : Hid (InMem x58 (some ⟨x54.heap.size, 0, none⟩) none (some ⟨gx58, 0, none⟩) [2, 1] ([] : List Int) [false, false, false, false, false, false, false, false]) := inMem_lit (Sl.of_lit (t := 3) (xs := [2, 1]) (ky56_0.below_ hx58 ky56_0.lt)) Sl.nil sx58 (by simp) (by simp) (by simp) (by simp) (by simp)
  clear ky56_0 sx58 nx58
  have bw59 : Below y56.heap.size y56 x58 := (by repeat' (first | with_reducible exact Below.refl _ _ | with_reducible assumption | with_reducible apply Below.drew | with_reducible apply below_drewN | with_reducible apply Below.alloc | with_reducible apply Below.setCell | (with_reducible refine Below.trans ?_ (Below.mono (by assumption) ?_)) | (simp; done) | (simp; omega) | omega | with_reducible apply le_size_alloc | with_reducible apply le_size_drewN | with_reducible apply le_size_drew | with_reducible apply le_size_setCell | with_reducible refine Nat.le_trans ?_ (Below.size (by assumption))))
  have HB_59 : Hid (Below w.heap.size w x58) := HB_57.out.trans (bw59.mono HB_57.out.size)
  have Mn_59 : Hid (InMem x58 none none (some ⟨gx1, 0, none⟩) ([] : List Int) ([] : List Int) [false, false, false, false, false, false, false, false]) := Mn_57.out.ext bw59
  have n_59 : Hid (Blk x58 x1.heap.size 25 #[.slice none 0 0, .slice none 0 0, .slice (some ⟨gx1, 0, none⟩) 8 8]) := n_57.out.below_ bw59 n_57.out.lt
  have Mi_59 : Hid (InMem x58 (some ⟨x50.heap.size, 0, none⟩) (some ⟨x50.heap.size + 1, 0, none⟩) (some ⟨gx54, 0, none⟩) [1] [2] [false, false, true, false, false, false, false, false]) := Mi_57.out.ext bw59
  clear bw59 hx58 HB_57 Mn_57 n_57 Mi_57
  go_wp2_with fail
  have Q60 : fullS 0 [1] [2] [false, false, true, false, false, false, false, false] = ⟨2, 2, [2, 1], ([] : List Int), [false, false, false, false, false, false, false, false], 0⟩ := by kernel_rfl
  refine (steps_any (some ⟨x50.heap.size, 0, none⟩) (some ⟨x50.heap.size + 1, 0, none⟩) (some ⟨gx54, 0, none⟩) (some ⟨x54.heap.size, 0, none⟩) none (some ⟨gx58, 0, none⟩) 1 1 8 2 0 8 [1] [2] [2, 1] ([] : List Int) [false, false, true, false, false, false, false, false] [false, false, false, false, false, false, false, false] 0 2 2 _ Mi_59.out Mj.out Q60 (by simp) (by simp) (by simp)).mono ?_
  rintro e x61 ⟨rfl, hx61⟩
  have bw62 : Below x58.heap.size x58 x61 := (by repeat' (first | with_reducible exact Below.refl _ _ | with_reducible assumption | with_reducible apply Below.drew | with_reducible apply below_drewN | with_reducible apply Below.alloc | with_reducible apply Below.setCell | (with_reducible refine Below.trans ?_ (Below.mono (by assumption) ?_)) | (simp; done) | (simp; omega) | omega | with_reducible apply le_size_alloc | with_reducible apply le_size_drewN | with_reducible apply le_size_drew | with_reducible apply le_size_setCell | with_reducible refine Nat.le_trans ?_ (Below.size (by assumption))))
  have HB_62 : Hid (Below w.heap.size w x61) := HB_59.out.trans (bw62.mono HB_59.out.size)
  have Mn_62 : Hid (InMem x61 none none (some ⟨gx1, 0, none⟩) ([] : List Int) ([] : List Int) [false, false, false, false, false, false, false, false]) := Mn_59.out.ext bw62
  have n_62 : Hid (Blk x61 x1.heap.size 25 #[.slice none 0 0, .slice none 0 0, .slice (some ⟨gx1, 0, none⟩) 8 8]) := n_59.out.below_ bw62 n_59.out.lt
  have Mi_62 : Hid (InMem x61 (some ⟨x50.heap.size, 0, none⟩) (some ⟨x50.heap.size + 1, 0, none⟩) (some ⟨gx54, 0, none⟩) [1] [2] [false, false, true, false, false, false, false, false]) := Mi_59.out.ext bw62
  have Mj_62 : Hid (InMem x61 (some ⟨x54.heap.size, 0, none⟩) none (some ⟨gx58, 0, none⟩) [2, 1] ([] : List Int) [false, false, false, false, false, false, false, false]) := Mj.out.ext bw62
  clear bw62 hx61 HB_59 Mn_59 n_59 Mi_59 Mj
  clear Q60
  clear Mi_62
  clear Mj_62
  have kn0 : x61.cell? ⟨x1.heap.size, 0, none⟩ = some (.slice none 0 0) := (n_62.out.cell_ 0).trans (by simp)
  have kn1 : x61.cell? ⟨x1.heap.size, 1, none⟩ = some (.slice none 0 0) := (n_62.out.cell_ 1).trans (by simp)
  have kn2 : x61.cell? ⟨x1.heap.size, 2, none⟩ = some (.slice (some ⟨gx1, 0, none⟩) 8 8) := (n_62.out.cell_ 2).trans (by simp)
  go_wp2_with fail
  have HD : Hid (dirS [] [] [false, false, false, false, false, false, false, false] = LR.bad 6) := by show _ = _; kernel_rfl
  have HDF : Hid (dirF [] [] [false, false, false, false, false, false, false, false] = 0) := by show _ = _; kernel_rfl
  refine (Direct_any none none (some ⟨gx1, 0, none⟩) 0 0 8 [] [] [false, false, false, false, false, false, false, false] _ Mn_62.out).mono ?_
  unfold LPost3
  rw [HD.out, HDF.out]
  rintro e x63 ⟨O1, o1, O2, o2, O3, o3, rfl, _, _, hx63⟩
  clear kn0 kn1 kn2
  have bw64 : Below x61.heap.size x61 x63 := (by repeat' (first | with_reducible exact Below.refl _ _ | with_reducible assumption | with_reducible apply Below.drew | with_reducible apply below_drewN | with_reducible apply Below.alloc | with_reducible apply Below.setCell | (with_reducible refine Below.trans ?_ (Below.mono (by assumption) ?_)) | (simp; done) | (simp; omega) | omega | with_reducible apply le_size_alloc | with_reducible apply le_size_drewN | with_reducible apply le_size_drew | with_reducible apply le_size_setCell | with_reducible refine Nat.le_trans ?_ (Below.size (by assumption))))
  have HB_64 : Hid (Below w.heap.size w x63) := HB_62.out.trans (bw64.mono HB_62.out.size)
  have Mn_64 : Hid (InMem x63 none none (some ⟨gx1, 0, none⟩) ([] : List Int) ([] : List Int) [false, false, false, false, false, false, false, false]) := Mn_62.out.ext bw64
  have n_64 : Hid (Blk x63 x1.heap.size 25 #[.slice none 0 0, .slice none 0 0, .slice (some ⟨gx1, 0, none⟩) 8 8]) := n_62.out.below_ bw64 n_62.out.lt
  clear bw64 hx63 HB_62 Mn_62 n_62
  dsimp only [LR.bad]
  simp only [List.length_nil]
  clear HD HDF
  go_wp2_with fail
  obtain ⟨V65, hV65⟩ : ∃ V, x63.alloc (.cells #[.slice O1 0 o1, .slice O2 0 o2, .slice O3 0 o3] 25) = V := ⟨_, rfl⟩
  have hbV65 : Below x63.heap.size x63 V65 := by rw [← hV65]; exact (Below.refl _ _).alloc (Nat.le_refl _) _
  have hkV65 : Hid (Blk V65 x63.heap.size 25 #[.slice O1 0 o1, .slice O2 0 o2, .slice O3 0 o3]) := by show Blk _ _ _ _; rw [← hV65]; exact Blk.new_ rfl rfl
  have szV65 : V65.heap.size = x63.heap.size + 1 := by rw [← hV65]; simp
  (try rw [hV65])
  clear hV65
  have bw66 : Below x63.heap.size x63 V65 := (by repeat' (first | with_reducible exact Below.refl _ _ | with_reducible assumption | with_reducible apply Below.drew | with_reducible apply below_drewN | with_reducible apply Below.alloc | with_reducible apply Below.setCell | (with_reducible refine Below.trans ?_ (Below.mono (by assumption) ?_)) | (simp; done) | (simp; omega) | omega | with_reducible apply le_size_alloc | with_reducible apply le_size_drewN | with_reducible apply le_size_drew | with_reducible apply le_size_setCell | with_reducible refine Nat.le_trans ?_ (Below.size (by assumption))))
  have HB_66 : Hid (Below w.heap.size w V65) := HB_64.out.trans (bw66.mono HB_64.out.size)
  have Mn_66 : Hid (InMem V65 none none (some ⟨gx1, 0, none⟩) ([] : List Int) ([] : List Int) [false, false, false, false, false, false, false, false]) := Mn_64.out.ext bw66
  have n_66 : Hid (Blk V65 x1.heap.size 25 #[.slice none 0 0, .slice none 0 0, .slice (some ⟨gx1, 0, none⟩) 8 8]) := n_64.out.below_ bw66 n_64.out.lt
  clear bw66 hbV65 HB_64 Mn_64 n_64
  clear hkV65
  obtain ⟨y67, hy67⟩ : ∃ Y, ((V65.alloc (.cells #[.int .i64 1, .int .i64 2] 3)).alloc (.cells #[.int .i64 1, .int .i64 2] 3)) = Y := ⟨_, rfl⟩
  have by67 : Below V65.heap.size V65 y67 := by rw [← hy67]; exact ((Below.refl _ _).alloc (Nat.le_refl _) _).alloc (by simp) _
  have ky67_0 : Blk y67 (x63.heap.size + 1) 3 #[.int .i64 1, .int .i64 2] := by rw [← szV65, ← hy67]; exact (Blk.new_ (by simp) rfl).alloc_ _
  have ky67_1 : Blk y67 (x63.heap.size + 1 + 1) 3 #[.int .i64 1, .int .i64 2] := by rw [← szV65, ← hy67]; exact Blk.new_ (by simp) rfl
  (try rw [hy67])
  clear hy67 szV65
  have bw68 : Below V65.heap.size V65 y67 := (by repeat' (first | with_reducible exact Below.refl _ _ | with_reducible assumption | with_reducible apply Below.drew | with_reducible apply below_drewN | with_reducible apply Below.alloc | with_reducible apply Below.setCell | (with_reducible refine Below.trans ?_ (Below.mono (by assumption) ?_)) | (simp; done) | (simp; omega) | omega | with_reducible apply le_size_alloc | with_reducible apply le_size_drewN | with_reducible apply le_size_drew | with_reducible apply le_size_setCell | with_reducible refine Nat.le_trans ?_ (Below.size (by assumption))))
  have HB_68 : Hid (Below w.heap.size w y67) := HB_66.out.trans (bw68.mono HB_66.out.size)
  have Mn_68 : Hid (InMem y67 none none (some ⟨gx1, 0, none⟩) ([] : List Int) ([] : List Int) [false, false, false, false, false, false, false, false]) := Mn_66.out.ext bw68
  have n_68 : Hid (Blk y67 x1.heap.size 25 #[.slice none 0 0, .slice none 0 0, .slice (some ⟨gx1, 0, none⟩) 8 8]) := n_66.out.below_ bw68 n_66.out.lt
  clear bw68 by67 HB_66 Mn_66 n_66
  refine (lists_any (some ⟨x63.heap.size + 1, 0, none⟩) none (some ⟨x63.heap.size + 1 + 1, 0, none⟩) 2 0 2 0 2 [1, 2] _ (Sl.of_lit (t := 3) (xs := [1, 2]) ky67_1) (by simp) (by simp)).mono ?_
  rintro e x69 ⟨gx69, rfl, sx69, nx69, hx69⟩
  have Mk : Hid (InMem x69 (some ⟨x63.heap.size + 1, 0, none⟩) none (some ⟨gx69, 0, none⟩) [1, 2] ([] : List Int) [false, true, true, false, false, false, false, false]) := inMem_lit (Sl.of_lit (t := 3) (xs := [1, 2]) (ky67_0.below_ hx69 ky67_0.lt)) Sl.nil sx69 (by simp) (by simp) (by simp) (by simp) (by simp)
  clear ky67_0 ky67_1 sx69 nx69
  have bw70 : Below y67.heap.size y67 x69 := (by repeat' (first | with_reducible exact Below.refl _ _ | with_reducible assumption | with_reducible apply Below.drew | with_reducible apply below_drewN | with_reducible apply Below.alloc | with_reducible apply Below.setCell | (with_reducible refine Below.trans ?_ (Below.mono (by assumption) ?_)) | (simp; done) | (simp; omega) | omega | with_reducible apply le_size_alloc | with_reducible apply le_size_drewN | with_reducible apply le_size_drew | with_reducible apply le_size_setCell | with_reducible refine Nat.le_trans ?_ (Below.size (by assumption))))
  have HB_70 : Hid (Below w.heap.size w x69) := HB_68.out.trans (bw70.mono HB_68.out.size)
  have Mn_70 : Hid (InMem x69 none none (some ⟨gx1, 0, none⟩) ([] : List Int) ([] : List Int) [false, false, false, false, false, false, false, false]) := Mn_68.out.ext bw70
  have n_70 : Hid (Blk x69 x1.heap.size 25 #[.slice none 0 0, .slice none 0 0, .slice (some ⟨gx1, 0, none⟩) 8 8]) := n_68.out.below_ bw70 n_68.out.lt
  clear bw70 hx69 HB_68 Mn_68 n_68
  go_wp2_with fail
  have HF : Hid (firS 1 [1, 2] ([] : List Int) [false, true, true, false, false, false, false, false] = (2, 1, 0)) := by show _ = _; kernel_rfl
  refine (First_any (some ⟨x63.heap.size + 1, 0, none⟩) none (some ⟨gx69, 0, none⟩) 2 0 8 [1, 2] ([] : List Int) [false, true, true, false, false, false, false, false] 1 _ Mk.out).mono ?_
  rw [HF.out]
  rintro e x71 ⟨rfl, hx71⟩
  have bw72 : Below x69.heap.size x69 x71 := (by repeat' (first | with_reducible exact Below.refl _ _ | with_reducible assumption | with_reducible apply Below.drew | with_reducible apply below_drewN | with_reducible apply Below.alloc | with_reducible apply Below.setCell | (with_reducible refine Below.trans ?_ (Below.mono (by assumption) ?_)) | (simp; done) | (simp; omega) | omega | with_reducible apply le_size_alloc | with_reducible apply le_size_drewN | with_reducible apply le_size_drew | with_reducible apply le_size_setCell | with_reducible refine Nat.le_trans ?_ (Below.size (by assumption))))
  have HB_72 : Hid (Below w.heap.size w x71) := HB_70.out.trans (bw72.mono HB_70.out.size)
  have Mn_72 : Hid (InMem x71 none none (some ⟨gx1, 0, none⟩) ([] : List Int) ([] : List Int) [false, false, false, false, false, false, false, false]) := Mn_70.out.ext bw72
  have n_72 : Hid (Blk x71 x1.heap.size 25 #[.slice none 0 0, .slice none 0 0, .slice (some ⟨gx1, 0, none⟩) 8 8]) := n_70.out.below_ bw72 n_70.out.lt
  have Mk_72 : Hid (InMem x71 (some ⟨x63.heap.size + 1, 0, none⟩) none (some ⟨gx69, 0, none⟩) [1, 2] ([] : List Int) [false, true, true, false, false, false, false, false]) := Mk.out.ext bw72
  clear bw72 hx71 HB_70 Mn_70 n_70 Mk
  dsimp only
  clear HF
  clear Mk_72
  go_wp2_with fail
  obtain ⟨y73, hy73⟩ : ∃ Y, (((x71.alloc (.cells #[.int .i64 1, .int .i64 2] 3)).alloc (.cells #[.int .i64 3] 3)).alloc (.cells #[.int .i64 3] 3)) = Y := ⟨_, rfl⟩
  have by73 : Below x71.heap.size x71 y73 := by rw [← hy73]; exact (((Below.refl _ _).alloc (Nat.le_refl _) _).alloc (by simp) _).alloc (by simp; omega) _
  have ky73_0 : Blk y73 (x71.heap.size) 3 #[.int .i64 1, .int .i64 2] := by rw [← hy73]; exact ((Blk.new_ (by simp) rfl).alloc_ _).alloc_ _
  have ky73_1 : Blk y73 (x71.heap.size + 1) 3 #[.int .i64 3] := by rw [← hy73]; exact (Blk.new_ (by simp) rfl).alloc_ _
  have ky73_2 : Blk y73 (x71.heap.size + 1 + 1) 3 #[.int .i64 3] := by rw [← hy73]; exact Blk.new_ (by simp) rfl
  (try rw [hy73])
  clear hy73
  have bw74 : Below x71.heap.size x71 y73 := (by repeat' (first | with_reducible exact Below.refl _ _ | with_reducible assumption | with_reducible apply Below.drew | with_reducible apply below_drewN | with_reducible apply Below.alloc | with_reducible apply Below.setCell | (with_reducible refine Below.trans ?_ (Below.mono (by assumption) ?_)) | (simp; done) | (simp; omega) | omega | with_reducible apply le_size_alloc | with_reducible apply le_size_drewN | with_reducible apply le_size_drew | with_reducible apply le_size_setCell | with_reducible refine Nat.le_trans ?_ (Below.size (by assumption))))
  have HB_74 : Hid (Below w.heap.size w y73) := HB_72.out.trans (bw74.mono HB_72.out.size)
  have Mn_74 : Hid (InMem y73 none none (some ⟨gx1, 0, none⟩) ([] : List Int) ([] : List Int) [false, false, false, false, false, false, false, false]) := Mn_72.out.ext bw74
  have n_74 : Hid (Blk y73 x1.heap.size 25 #[.slice none 0 0, .slice none 0 0, .slice (some ⟨gx1, 0, none⟩) 8 8]) := n_72.out.below_ bw74 n_72.out.lt
  clear bw74 by73 HB_72 Mn_72 n_72
  refine (lists_any (some ⟨x71.heap.size, 0, none⟩) (some ⟨x71.heap.size + 1, 0, none⟩) (some ⟨x71.heap.size + 1 + 1, 0, none⟩) 2 1 2 1 1 [3] _ (Sl.of_lit (t := 3) (xs := [3]) ky73_2) (by simp) (by simp)).mono ?_
  rintro e x75 ⟨gx75, rfl, sx75, nx75, hx75⟩
  have Ml : Hid (InMem x75 (some ⟨x71.heap.size, 0, none⟩) (some ⟨x71.heap.size + 1, 0, none⟩) (some ⟨gx75, 0, none⟩) [1, 2] [3] [false, false, false, true, false, false, false, false]) := inMem_lit (Sl.of_lit (t := 3) (xs := [1, 2]) (ky73_0.below_ hx75 ky73_0.lt)) (Sl.of_lit (t := 3) (xs := [3]) (ky73_1.below_ hx75 ky73_1.lt)) sx75 (by simp) (by simp) (by simp) (by simp) (by simp)
  clear ky73_0 ky73_1 ky73_2 sx75 nx75
  have bw76 : Below y73.heap.size y73 x75 := (by repeat' (first | with_reducible exact Below.refl _ _ | with_reducible assumption | with_reducible apply Below.drew | with_reducible apply below_drewN | with_reducible apply Below.alloc | with_reducible apply Below.setCell | (with_reducible refine Below.trans ?_ (Below.mono (by assumption) ?_)) | (simp; done) | (simp; omega) | omega | with_reducible apply le_size_alloc | with_reducible apply le_size_drewN | with_reducible apply le_size_drew | with_reducible apply le_size_setCell | with_reducible refine Nat.le_trans ?_ (Below.size (by assumption))))
  have HB_76 : Hid (Below w.heap.size w x75) := HB_74.out.trans (bw76.mono HB_74.out.size)
  have Mn_76 : Hid (InMem x75 none none (some ⟨gx1, 0, none⟩) ([] : List Int) ([] : List Int) [false, false, false, false, false, false, false, false]) := Mn_74.out.ext bw76
  have n_76 : Hid (Blk x75 x1.heap.size 25 #[.slice none 0 0, .slice none 0 0, .slice (some ⟨gx1, 0, none⟩) 8 8]) := n_74.out.below_ bw76 n_74.out.lt
  clear bw76 hx75 HB_74 Mn_74 n_74
  go_wp2_with fail
  have Hsa : Hid (runE 1 [1, 2] [3] [false, false, false, true, false, false, false, false] 3 = ⟨3, 2, [3, 1], ([] : List Int), [false, false, false, false, false, false, false, false], [2, 3]⟩) := by show _ = _; kernel_rfl
  have Vsa : Hid (vicP ((full 1 [1, 2] [3] [false, false, false, true, false, false, false, false] []).take 3) = [2]) := by show _ = _; kernel_rfl
  refine (Sweep_ok (some ⟨x71.heap.size, 0, none⟩) (some ⟨x71.heap.size + 1, 0, none⟩) (some ⟨gx75, 0, none⟩) 2 1 8 [1, 2] [3] [false, false, false, true, false, false, false, false] 1 3 _ Ml.out (by kernel_rfl) (by rfl) (by omega)).mono ?_
  rw [Hsa.out, Vsa.out]
  rintro e x77 ⟨SA1, SA2, SA3, sa1, sa2, sa3, SA4, sa4, rfl, msa, ssa, hx77⟩
  have bw78 : Below x75.heap.size x75 x77 := (by repeat' (first | with_reducible exact Below.refl _ _ | with_reducible assumption | with_reducible apply Below.drew | with_reducible apply below_drewN | with_reducible apply Below.alloc | with_reducible apply Below.setCell | (with_reducible refine Below.trans ?_ (Below.mono (by assumption) ?_)) | (simp; done) | (simp; omega) | omega | with_reducible apply le_size_alloc | with_reducible apply le_size_drewN | with_reducible apply le_size_drew | with_reducible apply le_size_setCell | with_reducible refine Nat.le_trans ?_ (Below.size (by assumption))))
  have HB_78 : Hid (Below w.heap.size w x77) := HB_76.out.trans (bw78.mono HB_76.out.size)
  have Mn_78 : Hid (InMem x77 none none (some ⟨gx1, 0, none⟩) ([] : List Int) ([] : List Int) [false, false, false, false, false, false, false, false]) := Mn_76.out.ext bw78
  have n_78 : Hid (Blk x77 x1.heap.size 25 #[.slice none 0 0, .slice none 0 0, .slice (some ⟨gx1, 0, none⟩) 8 8]) := n_76.out.below_ bw78 n_76.out.lt
  have Ml_78 : Hid (InMem x77 (some ⟨x71.heap.size, 0, none⟩) (some ⟨x71.heap.size + 1, 0, none⟩) (some ⟨gx75, 0, none⟩) [1, 2] [3] [false, false, false, true, false, false, false, false]) := Ml.out.ext bw78
  clear bw78 hx77 HB_76 Mn_76 n_76 Ml
  dsimp only at msa ssa ⊢
  simp only [List.length_cons, List.length_nil, Nat.reduceAdd]
  have Msa := Lib.hid msa
  have Ssa := Lib.hid ssa
  clear msa ssa Hsa Vsa
  clear Ml_78
  go_wp2_with fail
  obtain ⟨V79, hV79⟩ : ∃ V, x77.alloc (.cells #[.slice SA1 2 sa1, .slice SA2 0 sa2, .slice SA3 8 sa3] 25) = V := ⟨_, rfl⟩
  have hbV79 : Below x77.heap.size x77 V79 := by rw [← hV79]; exact (Below.refl _ _).alloc (Nat.le_refl _) _
  have hkV79 : Hid (Blk V79 x77.heap.size 25 #[.slice SA1 2 sa1, .slice SA2 0 sa2, .slice SA3 8 sa3]) := by show Blk _ _ _ _; rw [← hV79]; exact Blk.new_ rfl rfl
  have szV79 : V79.heap.size = x77.heap.size + 1 := by rw [← hV79]; simp
  (try rw [hV79])
  clear hV79
  have bw80 : Below x77.heap.size x77 V79 := (by repeat' (first | with_reducible exact Below.refl _ _ | with_reducible assumption | with_reducible apply Below.drew | with_reducible apply below_drewN | with_reducible apply Below.alloc | with_reducible apply Below.setCell | (with_reducible refine Below.trans ?_ (Below.mono (by assumption) ?_)) | (simp; done) | (simp; omega) | omega | with_reducible apply le_size_alloc | with_reducible apply le_size_drewN | with_reducible apply le_size_drew | with_reducible apply le_size_setCell | with_reducible refine Nat.le_trans ?_ (Below.size (by assumption))))
  have HB_80 : Hid (Below w.heap.size w V79) := HB_78.out.trans (bw80.mono HB_78.out.size)
  have Mn_80 : Hid (InMem V79 none none (some ⟨gx1, 0, none⟩) ([] : List Int) ([] : List Int) [false, false, false, false, false, false, false, false]) := Mn_78.out.ext bw80
  have n_80 : Hid (Blk V79 x1.heap.size 25 #[.slice none 0 0, .slice none 0 0, .slice (some ⟨gx1, 0, none⟩) 8 8]) := n_78.out.below_ bw80 n_78.out.lt
  have Msa_80 : Hid (InMem V79 SA1 SA2 SA3 [3, 1] ([] : List Int) [false, false, false, false, false, false, false, false]) := Msa.out.ext bw80
  have Ssa_80 : Hid (Sl V79 (.int .i64) SA4 [2]) := Ssa.out.ext bw80
  clear bw80 hbV79 HB_78 Mn_78 n_78 Msa Ssa
  obtain ⟨y81, hy81⟩ : ∃ Y, (V79.alloc (.cells #[.int .i64 1] 3)) = Y := ⟨_, rfl⟩
  have by81 : Below V79.heap.size V79 y81 := by rw [← hy81]; exact (Below.refl _ _).alloc (Nat.le_refl _) _
  have ky81_0 : Blk y81 (x77.heap.size + 1) 3 #[.int .i64 1] := by rw [← szV79, ← hy81]; exact Blk.new_ (by simp) rfl
  (try rw [hy81])
  clear hy81 szV79
  have bw82 : Below V79.heap.size V79 y81 := (by repeat' (first | with_reducible exact Below.refl _ _ | with_reducible assumption | with_reducible apply Below.drew | with_reducible apply below_drewN | with_reducible apply Below.alloc | with_reducible apply Below.setCell | (with_reducible refine Below.trans ?_ (Below.mono (by assumption) ?_)) | (simp; done) | (simp; omega) | omega | with_reducible apply le_size_alloc | with_reducible apply le_size_drewN | with_reducible apply le_size_drew | with_reducible apply le_size_setCell | with_reducible refine Nat.le_trans ?_ (Below.size (by assumption))))
  have HB_82 : Hid (Below w.heap.size w y81) := HB_80.out.trans (bw82.mono HB_80.out.size)
  have Mn_82 : Hid (InMem y81 none none (some ⟨gx1, 0, none⟩) ([] : List Int) ([] : List Int) [false, false, false, false, false, false, false, false]) := Mn_80.out.ext bw82
  have n_82 : Hid (Blk y81 x1.heap.size 25 #[.slice none 0 0, .slice none 0 0, .slice (some ⟨gx1, 0, none⟩) 8 8]) := n_80.out.below_ bw82 n_80.out.lt
  have Msa_82 : Hid (InMem y81 SA1 SA2 SA3 [3, 1] ([] : List Int) [false, false, false, false, false, false, false, false]) := Msa_80.out.ext bw82
  have Ssa_82 : Hid (Sl y81 (.int .i64) SA4 [2]) := Ssa_80.out.ext bw82
  have sa_82 : Hid (Blk y81 x77.heap.size 25 #[.slice SA1 2 sa1, .slice SA2 0 sa2, .slice SA3 8 sa3]) := hkV79.out.below_ bw82 hkV79.out.lt
  clear bw82 by81 HB_80 Mn_80 n_80 Msa_80 Ssa_80 hkV79
  refine (lists_any (some ⟨x77.heap.size + 1, 0, none⟩) none none 1 0 1 0 0 ([] : List Int) _ Sl.nil (by simp) (by simp)).mono ?_
  rintro e x83 ⟨gx83, rfl, sx83, nx83, hx83⟩
  have Mm : Hid (InMem x83 (some ⟨x77.heap.size + 1, 0, none⟩) none (some ⟨gx83, 0, none⟩) [1] ([] : List Int) [false, false, false, false, false, false, false, false]) := inMem_lit (Sl.of_lit (t := 3) (xs := [1]) (ky81_0.below_ hx83 ky81_0.lt)) Sl.nil sx83 (by simp) (by simp) (by simp) (by simp) (by simp)
  clear ky81_0 sx83 nx83
  have bw84 : Below y81.heap.size y81 x83 := (by repeat' (first | with_reducible exact Below.refl _ _ | with_reducible assumption | with_reducible apply Below.drew | with_reducible apply below_drewN | with_reducible apply Below.alloc | with_reducible apply Below.setCell | (with_reducible refine Below.trans ?_ (Below.mono (by assumption) ?_)) | (simp; done) | (simp; omega) | omega | with_reducible apply le_size_alloc | with_reducible apply le_size_drewN | with_reducible apply le_size_drew | with_reducible apply le_size_setCell | with_reducible refine Nat.le_trans ?_ (Below.size (by assumption))))
  have HB_84 : Hid (Below w.heap.size w x83) := HB_82.out.trans (bw84.mono HB_82.out.size)
  have Mn_84 : Hid (InMem x83 none none (some ⟨gx1, 0, none⟩) ([] : List Int) ([] : List Int) [false, false, false, false, false, false, false, false]) := Mn_82.out.ext bw84
  have n_84 : Hid (Blk x83 x1.heap.size 25 #[.slice none 0 0, .slice none 0 0, .slice (some ⟨gx1, 0, none⟩) 8 8]) := n_82.out.below_ bw84 n_82.out.lt
  have Msa_84 : Hid (InMem x83 SA1 SA2 SA3 [3, 1] ([] : List Int) [false, false, false, false, false, false, false, false]) := Msa_82.out.ext bw84
  have Ssa_84 : Hid (Sl x83 (.int .i64) SA4 [2]) := Ssa_82.out.ext bw84
  have sa_84 : Hid (Blk x83 x77.heap.size 25 #[.slice SA1 2 sa1, .slice SA2 0 sa2, .slice SA3 8 sa3]) := sa_82.out.below_ bw84 sa_82.out.lt
  clear bw84 hx83 HB_82 Mn_82 n_82 Msa_82 Ssa_82 sa_82
  go_wp2_with fail
  have Hsb : Hid (runE 0 [1] ([] : List Int) [false, false, false, false, false, false, false, false] 5 = ⟨0, (-1), [1], ([] : List Int), [false, false, false, false, false, false, false, false], ([] : List Int)⟩) := by show _ = _; kernel_rfl
  have Vsb : Hid (vicP ((full 0 [1] ([] : List Int) [false, false, false, false, false, false, false, false] []).take 5) = ([] : List Int)) := by show _ = _; kernel_rfl
  refine (Sweep_ok (some ⟨x77.heap.size + 1, 0, none⟩) none (some ⟨gx83, 0, none⟩) 1 0 8 [1] ([] : List Int) [false, false, false, false, false, false, false, false] 0 5 _ Mm.out (by kernel_rfl) (by rfl) (by omega)).mono ?_
  rw [Hsb.out, Vsb.out]
  rintro e x85 ⟨SB1, SB2, SB3, sb1, sb2, sb3, SB4, sb4, rfl, msb, ssb, hx85⟩
  have bw86 : Below x83.heap.size x83 x85 := (by repeat' (first | with_reducible exact Below.refl _ _ | with_reducible assumption | with_reducible apply Below.drew | with_reducible apply below_drewN | with_reducible apply Below.alloc | with_reducible apply Below.setCell | (with_reducible refine Below.trans ?_ (Below.mono (by assumption) ?_)) | (simp; done) | (simp; omega) | omega | with_reducible apply le_size_alloc | with_reducible apply le_size_drewN | with_reducible apply le_size_drew | with_reducible apply le_size_setCell | with_reducible refine Nat.le_trans ?_ (Below.size (by assumption))))
  have HB_86 : Hid (Below w.heap.size w x85) := HB_84.out.trans (bw86.mono HB_84.out.size)
  have Mn_86 : Hid (InMem x85 none none (some ⟨gx1, 0, none⟩) ([] : List Int) ([] : List Int) [false, false, false, false, false, false, false, false]) := Mn_84.out.ext bw86
  have n_86 : Hid (Blk x85 x1.heap.size 25 #[.slice none 0 0, .slice none 0 0, .slice (some ⟨gx1, 0, none⟩) 8 8]) := n_84.out.below_ bw86 n_84.out.lt
  have Msa_86 : Hid (InMem x85 SA1 SA2 SA3 [3, 1] ([] : List Int) [false, false, false, false, false, false, false, false]) := Msa_84.out.ext bw86
  have Ssa_86 : Hid (Sl x85 (.int .i64) SA4 [2]) := Ssa_84.out.ext bw86
  have sa_86 : Hid (Blk x85 x77.heap.size 25 #[.slice SA1 2 sa1, .slice SA2 0 sa2, .slice SA3 8 sa3]) := sa_84.out.below_ bw86 sa_84.out.lt
  have Mm_86 : Hid (InMem x85 (some ⟨x77.heap.size + 1, 0, none⟩) none (some ⟨gx83, 0, none⟩) [1] ([] : List Int) [false, false, false, false, false, false, false, false]) := Mm.out.ext bw86
  clear bw86 hx85 HB_84 Mn_84 n_84 Msa_84 Ssa_84 sa_84 Mm
  dsimp only at msb ssb ⊢
  simp only [List.length_cons, List.length_nil, Nat.reduceAdd]
  have Msb := Lib.hid msb
  have Ssb := Lib.hid ssb
  clear msb ssb Hsb Vsb
  clear Mm_86
  go_wp2_with fail
  obtain ⟨V87, hV87⟩ : ∃ V, x85.alloc (.cells #[.slice SB1 1 sb1, .slice SB2 0 sb2, .slice SB3 8 sb3] 25) = V := ⟨_, rfl⟩
  have hbV87 : Below x85.heap.size x85 V87 := by rw [← hV87]; exact (Below.refl _ _).alloc (Nat.le_refl _) _
  have hkV87 : Hid (Blk V87 x85.heap.size 25 #[.slice SB1 1 sb1, .slice SB2 0 sb2, .slice SB3 8 sb3]) := by show Blk _ _ _ _; rw [← hV87]; exact Blk.new_ rfl rfl
  have szV87 : V87.heap.size = x85.heap.size + 1 := by rw [← hV87]; simp
  (try rw [hV87])
  clear hV87
  have bw88 : Below x85.heap.size x85 V87 := (by repeat' (first | with_reducible exact Below.refl _ _ | with_reducible assumption | with_reducible apply Below.drew | with_reducible apply below_drewN | with_reducible apply Below.alloc | with_reducible apply Below.setCell | (with_reducible refine Below.trans ?_ (Below.mono (by assumption) ?_)) | (simp; done) | (simp; omega) | omega | with_reducible apply le_size_alloc | with_reducible apply le_size_drewN | with_reducible apply le_size_drew | with_reducible apply le_size_setCell | with_reducible refine Nat.le_trans ?_ (Below.size (by assumption))))
  have HB_88 : Hid (Below w.heap.size w V87) := HB_86.out.trans (bw88.mono HB_86.out.size)
  have Mn_88 : Hid (InMem V87 none none (some ⟨gx1, 0, none⟩) ([] : List Int) ([] : List Int) [false, false, false, false, false, false, false, false]) := Mn_86.out.ext bw88
  have n_88 : Hid (Blk V87 x1.heap.size 25 #[.slice none 0 0, .slice none 0 0, .slice (some ⟨gx1, 0, none⟩) 8 8]) := n_86.out.below_ bw88 n_86.out.lt
  have Msa_88 : Hid (InMem V87 SA1 SA2 SA3 [3, 1] ([] : List Int) [false, false, false, false, false, false, false, false]) := Msa_86.out.ext bw88
  have Ssa_88 : Hid (Sl V87 (.int .i64) SA4 [2]) := Ssa_86.out.ext bw88
  have sa_88 : Hid (Blk V87 x77.heap.size 25 #[.slice SA1 2 sa1, .slice SA2 0 sa2, .slice SA3 8 sa3]) := sa_86.out.below_ bw88 sa_86.out.lt
  have Msb_88 : Hid (InMem V87 SB1 SB2 SB3 [1] ([] : List Int) [false, false, false, false, false, false, false, false]) := Msb.out.ext bw88
  have Ssb_88 : Hid (Sl V87 (.int .i64) SB4 ([] : List Int)) := Ssb.out.ext bw88
  clear bw88 hbV87 HB_86 Mn_86 n_86 Msa_86 Ssa_86 sa_86 Msb Ssb
  obtain ⟨y89, hy89⟩ : ∃ Y, ((V87.alloc (.cells #[.int .i64 1, .int .i64 2] 3)).alloc (.cells #[.int .i64 3] 3)) = Y := ⟨_, rfl⟩
  have by89 : Below V87.heap.size V87 y89 := by rw [← hy89]; exact ((Below.refl _ _).alloc (Nat.le_refl _) _).alloc (by simp) _
  have ky89_0 : Blk y89 (x85.heap.size + 1) 3 #[.int .i64 1, .int .i64 2] := by rw [← szV87, ← hy89]; exact (Blk.new_ (by simp) rfl).alloc_ _
  have ky89_1 : Blk y89 (x85.heap.size + 1 + 1) 3 #[.int .i64 3] := by rw [← szV87, ← hy89]; exact Blk.new_ (by simp) rfl
  (try rw [hy89])
  clear hy89 szV87
  have bw90 : Below V87.heap.size V87 y89 := (by repeat' (first | with_reducible exact Below.refl _ _ | with_reducible assumption | with_reducible apply Below.drew | with_reducible apply below_drewN | with_reducible apply Below.alloc | with_reducible apply Below.setCell | (with_reducible refine Below.trans ?_ (Below.mono (by assumption) ?_)) | (simp; done) | (simp; omega) | omega | with_reducible apply le_size_alloc | with_reducible apply le_size_drewN | with_reducible apply le_size_drew | with_reducible apply le_size_setCell | with_reducible refine Nat.le_trans ?_ (Below.size (by assumption))))
  have HB_90 : Hid (Below w.heap.size w y89) := HB_88.out.trans (bw90.mono HB_88.out.size)
  have Mn_90 : Hid (InMem y89 none none (some ⟨gx1, 0, none⟩) ([] : List Int) ([] : List Int) [false, false, false, false, false, false, false, false]) := Mn_88.out.ext bw90
  have n_90 : Hid (Blk y89 x1.heap.size 25 #[.slice none 0 0, .slice none 0 0, .slice (some ⟨gx1, 0, none⟩) 8 8]) := n_88.out.below_ bw90 n_88.out.lt
  have Msa_90 : Hid (InMem y89 SA1 SA2 SA3 [3, 1] ([] : List Int) [false, false, false, false, false, false, false, false]) := Msa_88.out.ext bw90
  have Ssa_90 : Hid (Sl y89 (.int .i64) SA4 [2]) := Ssa_88.out.ext bw90
  have sa_90 : Hid (Blk y89 x77.heap.size 25 #[.slice SA1 2 sa1, .slice SA2 0 sa2, .slice SA3 8 sa3]) := sa_88.out.below_ bw90 sa_88.out.lt
  have Msb_90 : Hid (InMem y89 SB1 SB2 SB3 [1] ([] : List Int) [false, false, false, false, false, false, false, false]) := Msb_88.out.ext bw90
  have Ssb_90 : Hid (Sl y89 (.int .i64) SB4 ([] : List Int)) := Ssb_88.out.ext bw90
  have sb_90 : Hid (Blk y89 x85.heap.size 25 #[.slice SB1 1 sb1, .slice SB2 0 sb2, .slice SB3 8 sb3]) := hkV87.out.below_ bw90 hkV87.out.lt
  clear bw90 by89 HB_88 Mn_88 n_88 Msa_88 Ssa_88 sa_88 Msb_88 Ssb_88 hkV87
  refine (lists_any (some ⟨x85.heap.size + 1, 0, none⟩) (some ⟨x85.heap.size + 1 + 1, 0, none⟩) none 2 1 2 1 0 ([] : List Int) _ Sl.nil (by simp) (by simp)).mono ?_
  rintro e x91 ⟨gx91, rfl, sx91, nx91, hx91⟩
  have Mp : Hid (InMem x91 (some ⟨x85.heap.size + 1, 0, none⟩) (some ⟨x85.heap.size + 1 + 1, 0, none⟩) (some ⟨gx91, 0, none⟩) [1, 2] [3] [false, false, false, false, false, false, false, false]) := inMem_lit (Sl.of_lit (t := 3) (xs := [1, 2]) (ky89_0.below_ hx91 ky89_0.lt)) (Sl.of_lit (t := 3) (xs := [3]) (ky89_1.below_ hx91 ky89_1.lt)) sx91 (by simp) (by simp) (by simp) (by simp) (by simp)
  clear ky89_0 ky89_1 sx91 nx91
  have bw92 : Below y89.heap.size y89 x91 := (by repeat' (first | with_reducible exact Below.refl _ _ | with_reducible assumption | with_reducible apply Below.drew | with_reducible apply below_drewN | with_reducible apply Below.alloc | with_reducible apply Below.setCell | (with_reducible refine Below.trans ?_ (Below.mono (by assumption) ?_)) | (simp; done) | (simp; omega) | omega | with_reducible apply le_size_alloc | with_reducible apply le_size_drewN | with_reducible apply le_size_drew | with_reducible apply le_size_setCell | with_reducible refine Nat.le_trans ?_ (Below.size (by assumption))))
  have HB_92 : Hid (Below w.heap.size w x91) := HB_90.out.trans (bw92.mono HB_90.out.size)
  have Mn_92 : Hid (InMem x91 none none (some ⟨gx1, 0, none⟩) ([] : List Int) ([] : List Int) [false, false, false, false, false, false, false, false]) := Mn_90.out.ext bw92
  have n_92 : Hid (Blk x91 x1.heap.size 25 #[.slice none 0 0, .slice none 0 0, .slice (some ⟨gx1, 0, none⟩) 8 8]) := n_90.out.below_ bw92 n_90.out.lt
  have Msa_92 : Hid (InMem x91 SA1 SA2 SA3 [3, 1] ([] : List Int) [false, false, false, false, false, false, false, false]) := Msa_90.out.ext bw92
  have Ssa_92 : Hid (Sl x91 (.int .i64) SA4 [2]) := Ssa_90.out.ext bw92
  have sa_92 : Hid (Blk x91 x77.heap.size 25 #[.slice SA1 2 sa1, .slice SA2 0 sa2, .slice SA3 8 sa3]) := sa_90.out.below_ bw92 sa_90.out.lt
  have Msb_92 : Hid (InMem x91 SB1 SB2 SB3 [1] ([] : List Int) [false, false, false, false, false, false, false, false]) := Msb_90.out.ext bw92
  have Ssb_92 : Hid (Sl x91 (.int .i64) SB4 ([] : List Int)) := Ssb_90.out.ext bw92
  have sb_92 : Hid (Blk x91 x85.heap.size 25 #[.slice SB1 1 sb1, .slice SB2 0 sb2, .slice SB3 8 sb3]) := sb_90.out.below_ bw92 sb_90.out.lt
  clear bw92 hx91 HB_90 Mn_90 n_90 Msa_90 Ssa_90 sa_90 Msb_90 Ssb_90 sb_90
  go_wp2_with fail
  have Hsc : Hid (runE 1 [1, 2] [3] [false, false, false, false, false, false, false, false] 1 = ⟨3, 3, [1, 2], ([] : List Int), [false, false, false, false, false, false, false, false], ([] : List Int)⟩) := by show _ = _; kernel_rfl
  have Vsc : Hid (srt ([1, 2] ++ ([] : List Int)) = [1, 2]) := srt_lit (by simp)
  refine (Safe_no (some ⟨x85.heap.size + 1, 0, none⟩) (some ⟨x85.heap.size + 1 + 1, 0, none⟩) (some ⟨gx91, 0, none⟩) 2 1 8 [1, 2] [3] [false, false, false, false, false, false, false, false] 1 1 _ Mp.out (by kernel_rfl) (by rfl) (by omega) (by rw [Hsc.out]; decide) (by rw [Hsc.out]; decide)).mono ?_
  rw [Hsc.out]
  dsimp only
  rw [Vsc.out]
  rintro e x93 ⟨SC4, sc4, rfl, ssc, hx93⟩
  have bw94 : Below x91.heap.size x91 x93 := (by repeat' (first | with_reducible exact Below.refl _ _ | with_reducible assumption | with_reducible apply Below.drew | with_reducible apply below_drewN | with_reducible apply Below.alloc | with_reducible apply Below.setCell | (with_reducible refine Below.trans ?_ (Below.mono (by assumption) ?_)) | (simp; done) | (simp; omega) | omega | with_reducible apply le_size_alloc | with_reducible apply le_size_drewN | with_reducible apply le_size_drew | with_reducible apply le_size_setCell | with_reducible refine Nat.le_trans ?_ (Below.size (by assumption))))
  have HB_94 : Hid (Below w.heap.size w x93) := HB_92.out.trans (bw94.mono HB_92.out.size)
  have Mn_94 : Hid (InMem x93 none none (some ⟨gx1, 0, none⟩) ([] : List Int) ([] : List Int) [false, false, false, false, false, false, false, false]) := Mn_92.out.ext bw94
  have n_94 : Hid (Blk x93 x1.heap.size 25 #[.slice none 0 0, .slice none 0 0, .slice (some ⟨gx1, 0, none⟩) 8 8]) := n_92.out.below_ bw94 n_92.out.lt
  have Msa_94 : Hid (InMem x93 SA1 SA2 SA3 [3, 1] ([] : List Int) [false, false, false, false, false, false, false, false]) := Msa_92.out.ext bw94
  have Ssa_94 : Hid (Sl x93 (.int .i64) SA4 [2]) := Ssa_92.out.ext bw94
  have sa_94 : Hid (Blk x93 x77.heap.size 25 #[.slice SA1 2 sa1, .slice SA2 0 sa2, .slice SA3 8 sa3]) := sa_92.out.below_ bw94 sa_92.out.lt
  have Msb_94 : Hid (InMem x93 SB1 SB2 SB3 [1] ([] : List Int) [false, false, false, false, false, false, false, false]) := Msb_92.out.ext bw94
  have Ssb_94 : Hid (Sl x93 (.int .i64) SB4 ([] : List Int)) := Ssb_92.out.ext bw94
  have sb_94 : Hid (Blk x93 x85.heap.size 25 #[.slice SB1 1 sb1, .slice SB2 0 sb2, .slice SB3 8 sb3]) := sb_92.out.below_ bw94 sb_92.out.lt
  have Mp_94 : Hid (InMem x93 (some ⟨x85.heap.size + 1, 0, none⟩) (some ⟨x85.heap.size + 1 + 1, 0, none⟩) (some ⟨gx91, 0, none⟩) [1, 2] [3] [false, false, false, false, false, false, false, false]) := Mp.out.ext bw94
  clear bw94 hx93 HB_92 Mn_92 n_92 Msa_92 Ssa_92 sa_92 Msb_92 Ssb_92 sb_92 Mp
  dsimp only at ssc ⊢
  simp only [List.length_cons, List.length_nil, Nat.reduceAdd]
  have Ssc := Lib.hid ssc
  clear ssc Hsc Vsc
  clear Mp_94
  go_wp2_with fail
  obtain ⟨y95, hy95⟩ : ∃ Y, (x93.alloc (.cells #[.int .i64 1, .int .i64 2, .int .i64 3] 3)) = Y := ⟨_, rfl⟩
  have by95 : Below x93.heap.size x93 y95 := by rw [← hy95]; exact (Below.refl _ _).alloc (Nat.le_refl _) _
  have ky95_0 : Blk y95 (x93.heap.size) 3 #[.int .i64 1, .int .i64 2, .int .i64 3] := by rw [← hy95]; exact Blk.new_ (by simp) rfl
  (try rw [hy95])
  clear hy95
  have bw96 : Below x93.heap.size x93 y95 := (by repeat' (first | with_reducible exact Below.refl _ _ | with_reducible assumption | with_reducible apply Below.drew | with_reducible apply below_drewN | with_reducible apply Below.alloc | with_reducible apply Below.setCell | (with_reducible refine Below.trans ?_ (Below.mono (by assumption) ?_)) | (simp; done) | (simp; omega) | omega | with_reducible apply le_size_alloc | with_reducible apply le_size_drewN | with_reducible apply le_size_drew | with_reducible apply le_size_setCell | with_reducible refine Nat.le_trans ?_ (Below.size (by assumption))))
  have HB_96 : Hid (Below w.heap.size w y95) := HB_94.out.trans (bw96.mono HB_94.out.size)
  have Mn_96 : Hid (InMem y95 none none (some ⟨gx1, 0, none⟩) ([] : List Int) ([] : List Int) [false, false, false, false, false, false, false, false]) := Mn_94.out.ext bw96
  have n_96 : Hid (Blk y95 x1.heap.size 25 #[.slice none 0 0, .slice none 0 0, .slice (some ⟨gx1, 0, none⟩) 8 8]) := n_94.out.below_ bw96 n_94.out.lt
  have Msa_96 : Hid (InMem y95 SA1 SA2 SA3 [3, 1] ([] : List Int) [false, false, false, false, false, false, false, false]) := Msa_94.out.ext bw96
  have Ssa_96 : Hid (Sl y95 (.int .i64) SA4 [2]) := Ssa_94.out.ext bw96
  have sa_96 : Hid (Blk y95 x77.heap.size 25 #[.slice SA1 2 sa1, .slice SA2 0 sa2, .slice SA3 8 sa3]) := sa_94.out.below_ bw96 sa_94.out.lt
  have Msb_96 : Hid (InMem y95 SB1 SB2 SB3 [1] ([] : List Int) [false, false, false, false, false, false, false, false]) := Msb_94.out.ext bw96
  have Ssb_96 : Hid (Sl y95 (.int .i64) SB4 ([] : List Int)) := Ssb_94.out.ext bw96
  have sb_96 : Hid (Blk y95 x85.heap.size 25 #[.slice SB1 1 sb1, .slice SB2 0 sb2, .slice SB3 8 sb3]) := sb_94.out.below_ bw96 sb_94.out.lt
  have Ssc_96 : Hid (Sl y95 (.int .i64) SC4 [1, 2]) := Ssc.out.ext bw96
  clear bw96 by95 HB_94 Mn_94 n_94 Msa_94 Ssa_94 sa_94 Msb_94 Ssb_94 sb_94 Ssc
  refine (lists_any (some ⟨x93.heap.size, 0, none⟩) none none 3 0 3 0 0 ([] : List Int) _ Sl.nil (by simp) (by simp)).mono ?_
  rintro e x97 ⟨gx97, rfl, sx97, nx97, hx97⟩
  have Mq : Hid (InMem x97 (some ⟨x93.heap.size, 0, none⟩) none (some ⟨gx97, 0, none⟩) [1, 2, 3] ([] : List Int) [false, false, false, false, false, false, false, false]) := inMem_lit (Sl.of_lit (t := 3) (xs := [1, 2, 3]) (ky95_0.below_ hx97 ky95_0.lt)) Sl.nil sx97 (by simp) (by simp) (by simp) (by simp) (by simp)
  clear ky95_0 sx97 nx97
  have bw98 : Below y95.heap.size y95 x97 := (by repeat' (first | with_reducible exact Below.refl _ _ | with_reducible assumption | with_reducible apply Below.drew | with_reducible apply below_drewN | with_reducible apply Below.alloc | with_reducible apply Below.setCell | (with_reducible refine Below.trans ?_ (Below.mono (by assumption) ?_)) | (simp; done) | (simp; omega) | omega | with_reducible apply le_size_alloc | with_reducible apply le_size_drewN | with_reducible apply le_size_drew | with_reducible apply le_size_setCell | with_reducible refine Nat.le_trans ?_ (Below.size (by assumption))))
  have HB_98 : Hid (Below w.heap.size w x97) := HB_96.out.trans (bw98.mono HB_96.out.size)
  have Mn_98 : Hid (InMem x97 none none (some ⟨gx1, 0, none⟩) ([] : List Int) ([] : List Int) [false, false, false, false, false, false, false, false]) := Mn_96.out.ext bw98
  have n_98 : Hid (Blk x97 x1.heap.size 25 #[.slice none 0 0, .slice none 0 0, .slice (some ⟨gx1, 0, none⟩) 8 8]) := n_96.out.below_ bw98 n_96.out.lt
  have Msa_98 : Hid (InMem x97 SA1 SA2 SA3 [3, 1] ([] : List Int) [false, false, false, false, false, false, false, false]) := Msa_96.out.ext bw98
  have Ssa_98 : Hid (Sl x97 (.int .i64) SA4 [2]) := Ssa_96.out.ext bw98
  have sa_98 : Hid (Blk x97 x77.heap.size 25 #[.slice SA1 2 sa1, .slice SA2 0 sa2, .slice SA3 8 sa3]) := sa_96.out.below_ bw98 sa_96.out.lt
  have Msb_98 : Hid (InMem x97 SB1 SB2 SB3 [1] ([] : List Int) [false, false, false, false, false, false, false, false]) := Msb_96.out.ext bw98
  have Ssb_98 : Hid (Sl x97 (.int .i64) SB4 ([] : List Int)) := Ssb_96.out.ext bw98
  have sb_98 : Hid (Blk x97 x85.heap.size 25 #[.slice SB1 1 sb1, .slice SB2 0 sb2, .slice SB3 8 sb3]) := sb_96.out.below_ bw98 sb_96.out.lt
  have Ssc_98 : Hid (Sl x97 (.int .i64) SC4 [1, 2]) := Ssc_96.out.ext bw98
  clear bw98 hx97 HB_96 Mn_96 n_96 Msa_96 Ssa_96 sa_96 Msb_96 Ssb_96 sb_96 Ssc_96
  go_wp2_with fail
  have Hsd : Hid (runE 1 [1, 2, 3] ([] : List Int) [false, false, false, false, false, false, false, false] 2 = ⟨3, 3, [1, 2], ([] : List Int), [false, false, false, false, false, false, false, false], [3]⟩) := by show _ = _; kernel_rfl
  have Vsd : Hid (srt ([1, 2] ++ ([] : List Int)) = [1, 2]) := srt_lit (by simp)
  refine (Safe_no (some ⟨x93.heap.size, 0, none⟩) none (some ⟨gx97, 0, none⟩) 3 0 8 [1, 2, 3] ([] : List Int) [false, false, false, false, false, false, false, false] 1 2 _ Mq.out (by kernel_rfl) (by rfl) (by omega) (by rw [Hsd.out]; decide) (by rw [Hsd.out]; decide)).mono ?_
  rw [Hsd.out]
  dsimp only
  rw [Vsd.out]
  rintro e x99 ⟨SD4, sd4, rfl, ssd, hx99⟩
  have bw100 : Below x97.heap.size x97 x99 := (by repeat' (first | with_reducible exact Below.refl _ _ | with_reducible assumption | with_reducible apply Below.drew | with_reducible apply below_drewN | with_reducible apply Below.alloc | with_reducible apply Below.setCell | (with_reducible refine Below.trans ?_ (Below.mono (by assumption) ?_)) | (simp; done) | (simp; omega) | omega | with_reducible apply le_size_alloc | with_reducible apply le_size_drewN | with_reducible apply le_size_drew | with_reducible apply le_size_setCell | with_reducible refine Nat.le_trans ?_ (Below.size (by assumption))))
  have HB_100 : Hid (Below w.heap.size w x99) := HB_98.out.trans (bw100.mono HB_98.out.size)
  have Mn_100 : Hid (InMem x99 none none (some ⟨gx1, 0, none⟩) ([] : List Int) ([] : List Int) [false, false, false, false, false, false, false, false]) := Mn_98.out.ext bw100
  have n_100 : Hid (Blk x99 x1.heap.size 25 #[.slice none 0 0, .slice none 0 0, .slice (some ⟨gx1, 0, none⟩) 8 8]) := n_98.out.below_ bw100 n_98.out.lt
  have Msa_100 : Hid (InMem x99 SA1 SA2 SA3 [3, 1] ([] : List Int) [false, false, false, false, false, false, false, false]) := Msa_98.out.ext bw100
  have Ssa_100 : Hid (Sl x99 (.int .i64) SA4 [2]) := Ssa_98.out.ext bw100
  have sa_100 : Hid (Blk x99 x77.heap.size 25 #[.slice SA1 2 sa1, .slice SA2 0 sa2, .slice SA3 8 sa3]) := sa_98.out.below_ bw100 sa_98.out.lt
  have Msb_100 : Hid (InMem x99 SB1 SB2 SB3 [1] ([] : List Int) [false, false, false, false, false, false, false, false]) := Msb_98.out.ext bw100
  have Ssb_100 : Hid (Sl x99 (.int .i64) SB4 ([] : List Int)) := Ssb_98.out.ext bw100
  have sb_100 : Hid (Blk x99 x85.heap.size 25 #[.slice SB1 1 sb1, .slice SB2 0 sb2, .slice SB3 8 sb3]) := sb_98.out.below_ bw100 sb_98.out.lt
  have Ssc_100 : Hid (Sl x99 (.int .i64) SC4 [1, 2]) := Ssc_98.out.ext bw100
  have Mq_100 : Hid (InMem x99 (some ⟨x93.heap.size, 0, none⟩) none (some ⟨gx97, 0, none⟩) [1, 2, 3] ([] : List Int) [false, false, false, false, false, false, false, false]) := Mq.out.ext bw100
  clear bw100 hx99 HB_98 Mn_98 n_98 Msa_98 Ssa_98 sa_98 Msb_98 Ssb_98 sb_98 Ssc_98 Mq
  dsimp only at ssd ⊢
  simp only [List.length_cons, List.length_nil, Nat.reduceAdd]
  have Ssd := Lib.hid ssd
  clear ssd Hsd Vsd
  clear Mq_100
  go_wp2_with fail
  refine wp_region_chain [.is ?fr10n0, .is ?fr10n1, .is ?fr10n2, .is ?fr10n3, .has (LitS 3 2 [.int .i64 3, .int .i64 1]), .has (LisS 2 0 [3, 1] ([] : List Int) [false, false, false, false, false, false, false, false]), .is (.bool true), .is ?fr10n7, .is ?fr10n8, .is ?fr10n9, .has (LitS 3 1 [.int .i64 2]), .is (.bool true), .is ?fr10n12, .is ?fr10n13, .is ?fr10n14, .is ?fr10n15, .is ?fr10n16, .is ?fr10n17, .is ?fr10n18, .has (LitS 3 1 [.int .i64 1]), .has (LisS 1 0 [1] ([] : List Int) [false, false, false, false, false, false, false, false]), .is (.bool true), .is ?fr10n22, .is ?fr10n23, .is ?fr10n24, .is ?fr10n25, .is ?fr10n26, .is ?fr10n27, .is ?fr10n28] (by kernel_rfl) (by kernel_rfl) (by kernel_rfl) (lasts_is (lasts_is (lasts_is (lasts_is (lasts_has (LitS.lasts 3 2 [.int .i64 3, .int .i64 1]) (lasts_has (LisS.lasts 2 0 [3, 1] ([] : List Int) [false, false, false, false, false, false, false, false]) (lasts_is (lasts_is (lasts_is (lasts_is (lasts_has (LitS.lasts 3 1 [.int .i64 2]) (lasts_is (lasts_is (lasts_is (lasts_is (lasts_is (lasts_is (lasts_is (lasts_is (lasts_has (LitS.lasts 3 1 [.int .i64 1]) (lasts_has (LisS.lasts 1 0 [1] ([] : List Int) [false, false, false, false, false, false, false, false]) (lasts_is (lasts_is (lasts_is (lasts_is (lasts_is (lasts_is (lasts_is (lasts_is lasts_nil))))))))))))))))))))))))))))) (fun W0 hb0 hz0 => ?_)
  rotate_left 21
  have bw101 : Below x99.heap.size x99 W0 := (by repeat' (first | with_reducible exact Below.refl _ _ | with_reducible assumption | with_reducible apply Below.drew | with_reducible apply below_drewN | with_reducible apply Below.alloc | with_reducible apply Below.setCell | (with_reducible refine Below.trans ?_ (Below.mono (by assumption) ?_)) | (simp; done) | (simp; omega) | omega | with_reducible apply le_size_alloc | with_reducible apply le_size_drewN | with_reducible apply le_size_drew | with_reducible apply le_size_setCell | with_reducible refine Nat.le_trans ?_ (Below.size (by assumption))))
  have HB_101 : Hid (Below w.heap.size w W0) := HB_100.out.trans (bw101.mono HB_100.out.size)
  have Mn_101 : Hid (InMem W0 none none (some ⟨gx1, 0, none⟩) ([] : List Int) ([] : List Int) [false, false, false, false, false, false, false, false]) := Mn_100.out.ext bw101
  have n_101 : Hid (Blk W0 x1.heap.size 25 #[.slice none 0 0, .slice none 0 0, .slice (some ⟨gx1, 0, none⟩) 8 8]) := n_100.out.below_ bw101 n_100.out.lt
  have Msa_101 : Hid (InMem W0 SA1 SA2 SA3 [3, 1] ([] : List Int) [false, false, false, false, false, false, false, false]) := Msa_100.out.ext bw101
  have Ssa_101 : Hid (Sl W0 (.int .i64) SA4 [2]) := Ssa_100.out.ext bw101
  have sa_101 : Hid (Blk W0 x77.heap.size 25 #[.slice SA1 2 sa1, .slice SA2 0 sa2, .slice SA3 8 sa3]) := sa_100.out.below_ bw101 sa_100.out.lt
  have Msb_101 : Hid (InMem W0 SB1 SB2 SB3 [1] ([] : List Int) [false, false, false, false, false, false, false, false]) := Msb_100.out.ext bw101
  have Ssb_101 : Hid (Sl W0 (.int .i64) SB4 ([] : List Int)) := Ssb_100.out.ext bw101
  have sb_101 : Hid (Blk W0 x85.heap.size 25 #[.slice SB1 1 sb1, .slice SB2 0 sb2, .slice SB3 8 sb3]) := sb_100.out.below_ bw101 sb_100.out.lt
  have Ssc_101 : Hid (Sl W0 (.int .i64) SC4 [1, 2]) := Ssc_100.out.ext bw101
  have Ssd_101 : Hid (Sl W0 (.int .i64) SD4 [1, 2]) := Ssd.out.ext bw101
  have qsa0 : W0.cell? ⟨x77.heap.size, 0, none⟩ = some (.slice SA1 2 sa1) := (sa_101.out.cell_ 0).trans (by simp)
  have qsa1 : W0.cell? ⟨x77.heap.size, 1, none⟩ = some (.slice SA2 0 sa2) := (sa_101.out.cell_ 1).trans (by simp)
  have qsa2 : W0.cell? ⟨x77.heap.size, 2, none⟩ = some (.slice SA3 8 sa3) := (sa_101.out.cell_ 2).trans (by simp)
  have zsa : x77.heap.size < W0.heap.size := sa_101.out.lt
  have qsb0 : W0.cell? ⟨x85.heap.size, 0, none⟩ = some (.slice SB1 1 sb1) := (sb_101.out.cell_ 0).trans (by simp)
  have qsb1 : W0.cell? ⟨x85.heap.size, 1, none⟩ = some (.slice SB2 0 sb2) := (sb_101.out.cell_ 1).trans (by simp)
  have qsb2 : W0.cell? ⟨x85.heap.size, 2, none⟩ = some (.slice SB3 8 sb3) := (sb_101.out.cell_ 2).trans (by simp)
  have zsb : x85.heap.size < W0.heap.size := sb_101.out.lt
  refine chain_is (step_take (by rfl) ?yr10n0) ?rr10n0
  case yr10n0 =>
    intro w hbw hd
    clear hd
    go_simp
    first | done | with_reducible rfl
  (try simp only [Act.put, List.setIfInBounds_toArray, List.set_cons_zero, List.set_cons_succ, List.nil_append, List.cons_append])
  refine chain_is (step_take (by rfl) ?yr10n1) ?rr10n1
  case yr10n1 =>
    intro w hbw hd
    clear hd
    go_simp
    first | done | with_reducible rfl
  (try simp only [Act.put, List.setIfInBounds_toArray, List.set_cons_zero, List.set_cons_succ, List.nil_append, List.cons_append])
  refine chain_is (step_take (by rfl) ?yr10n2) ?rr10n2
  case yr10n2 =>
    intro w hbw hd
    clear hd
    go_simp
    first | done | with_reducible rfl
  (try simp only [Act.put, List.setIfInBounds_toArray, List.set_cons_zero, List.set_cons_succ, List.nil_append, List.cons_append])
  refine chain_is (step_take (by rfl) ?yr10n3) ?rr10n3
  case yr10n3 =>
    intro w hbw hd
    have r0 : w.cell? ⟨x77.heap.size, 0, none⟩ = some (.slice SA1 2 sa1) := cell_keep hbw qsa0 zsa
    have r1 : w.cell? ⟨x77.heap.size, 1, none⟩ = some (.slice SA2 0 sa2) := cell_keep hbw qsa1 zsa
    have r2 : w.cell? ⟨x77.heap.size, 2, none⟩ = some (.slice SA3 8 sa3) := cell_keep hbw qsa2 zsa
    clear hd
    go_simp
    first | done | with_reducible rfl
  (try simp only [Act.put, List.setIfInBounds_toArray, List.set_cons_zero, List.set_cons_succ, List.nil_append, List.cons_append])
  refine chain_has ?sr10n4 (fun vr10n4 => ?rr10n4)
  case sr10n4 =>
    intro w hbw hd K Q' hK
    clear hd
    go_simp
    refine hK.out (.slice (some ⟨w.heap.size, 0, none⟩) 2 2) _ _ ?_ ?_ ?_
    · (simp only [Act.put, List.setIfInBounds_toArray, List.set_cons_zero, List.set_cons_succ, List.nil_append, List.cons_append])
    · exact (by repeat' (first | with_reducible exact Below.refl _ _ | with_reducible assumption | with_reducible apply Below.drew | with_reducible apply below_drewN | with_reducible apply Below.alloc | with_reducible apply Below.setCell | (with_reducible refine Below.trans ?_ (Below.mono (by assumption) ?_)) | (simp; done) | (simp; omega) | omega | with_reducible apply le_size_alloc | with_reducible apply le_size_drewN | with_reducible apply le_size_drew | with_reducible apply le_size_setCell | with_reducible refine Nat.le_trans ?_ (Below.size (by assumption))))
    · exact ⟨_, rfl, Blk.new_ rfl rfl⟩
  (try simp only [Act.put, List.setIfInBounds_toArray, List.set_cons_zero, List.set_cons_succ, List.nil_append, List.cons_append])
  refine chain_has ?sr10n5 (fun vr10n5 => ?rr10n5)
  case sr10n5 =>
    intro w hbw hd K Q' hK
    obtain ⟨g0, rfl, k0⟩ : LitS 3 2 [.int .i64 3, .int .i64 1] _ w := hd 4 _ _ (by rfl) rfl rfl
    clear hd
    go_simp
    refine (lists_any (some ⟨g0, 0, none⟩) none none 2 0 2 0 0 ([] : List Int) _ Sl.nil (by simp) (by simp)).mono ?_
    rintro e x ⟨g, rfl, s, _, hx⟩
    go_wp2_with fail
    refine hK.out (.agg #[.slice (some ⟨g0, 0, none⟩) 2 2, .slice none 0 0, .slice (some ⟨g, 0, none⟩) 8 8]) _ _ ?_ ?_ ?_
    · (simp only [Act.put, List.setIfInBounds_toArray, List.set_cons_zero, List.set_cons_succ, List.nil_append, List.cons_append])
    · exact (by repeat' (first | with_reducible exact Below.refl _ _ | with_reducible assumption | with_reducible apply Below.drew | with_reducible apply below_drewN | with_reducible apply Below.alloc | with_reducible apply Below.setCell | (with_reducible refine Below.trans ?_ (Below.mono (by assumption) ?_)) | (simp; done) | (simp; omega) | omega | with_reducible apply le_size_alloc | with_reducible apply le_size_drewN | with_reducible apply le_size_drew | with_reducible apply le_size_setCell | with_reducible refine Nat.le_trans ?_ (Below.size (by assumption))))
    · exact ⟨_, _, _, rfl, inMem_lit (Sl.of_lit (t := 3) (xs := [3, 1]) (k0.below_ hx k0.lt)) Sl.nil s (by simp) (by simp) (by simp) (by simp) (by simp)⟩
  (try simp only [Act.put, List.setIfInBounds_toArray, List.set_cons_zero, List.set_cons_succ, List.nil_append, List.cons_append])
  refine chain_is ?sr10n6 ?rr10n6
  case sr10n6 =>
    intro w hbw hd K Q' hK
    obtain ⟨Q1, Q2, g, rfl, hm⟩ : LisS 2 0 [3, 1] ([] : List Int) [false, false, false, false, false, false, false, false] _ w := hd 5 _ _ (by rfl) rfl rfl
    clear hd
    go_simp
    refine (same_lists SA1 SA2 SA3 Q1 Q2 (some ⟨g, 0, none⟩) sa1 sa2 sa3 2 0 8 [3, 1] ([] : List Int) [false, false, false, false, false, false, false, false] _ (Msa_101.out.ext hbw) hm (by simp) (by simp) (by simp)).mono ?_
    rintro e x ⟨rfl, hx⟩
    go_wp2_with fail
    refine hK.out (.bool true) _ _ ?_ ?_ rfl
    · (simp only [Act.put, List.setIfInBounds_toArray, List.set_cons_zero, List.set_cons_succ, List.nil_append, List.cons_append])
    · exact (by repeat' (first | with_reducible exact Below.refl _ _ | with_reducible assumption | with_reducible apply Below.drew | with_reducible apply below_drewN | with_reducible apply Below.alloc | with_reducible apply Below.setCell | (with_reducible refine Below.trans ?_ (Below.mono (by assumption) ?_)) | (simp; done) | (simp; omega) | omega | with_reducible apply le_size_alloc | with_reducible apply le_size_drewN | with_reducible apply le_size_drew | with_reducible apply le_size_setCell | with_reducible refine Nat.le_trans ?_ (Below.size (by assumption))))
  (try simp only [Act.put, List.setIfInBounds_toArray, List.set_cons_zero, List.set_cons_succ, List.nil_append, List.cons_append])
  refine chain_is (step_take (by rfl) ?yr10n7) ?rr10n7
  case yr10n7 =>
    intro w hbw hd
    clear hd
    go_simp
    first | done | with_reducible rfl
  (try simp only [Act.put, List.setIfInBounds_toArray, List.set_cons_zero, List.set_cons_succ, List.nil_append, List.cons_append])
  refine chain_is (step_take (by rfl) ?yr10n8) ?rr10n8
  case yr10n8 =>
    intro w hbw hd
    clear hd
    go_simp
    first | done | with_reducible rfl
  (try simp only [Act.put, List.setIfInBounds_toArray, List.set_cons_zero, List.set_cons_succ, List.nil_append, List.cons_append])
  refine chain_is (step_take (by rfl) ?yr10n9) ?rr10n9
  case yr10n9 =>
    intro w hbw hd
    clear hd
    go_simp
    first | done | with_reducible rfl
  (try simp only [Act.put, List.setIfInBounds_toArray, List.set_cons_zero, List.set_cons_succ, List.nil_append, List.cons_append])
  refine chain_has ?sr10n10 (fun vr10n10 => ?rr10n10)
  case sr10n10 =>
    intro w hbw hd K Q' hK
    clear hd
    go_simp
    refine hK.out (.slice (some ⟨w.heap.size, 0, none⟩) 1 1) _ _ ?_ ?_ ?_
    · (simp only [Act.put, List.setIfInBounds_toArray, List.set_cons_zero, List.set_cons_succ, List.nil_append, List.cons_append])
    · exact (by repeat' (first | with_reducible exact Below.refl _ _ | with_reducible assumption | with_reducible apply Below.drew | with_reducible apply below_drewN | with_reducible apply Below.alloc | with_reducible apply Below.setCell | (with_reducible refine Below.trans ?_ (Below.mono (by assumption) ?_)) | (simp; done) | (simp; omega) | omega | with_reducible apply le_size_alloc | with_reducible apply le_size_drewN | with_reducible apply le_size_drew | with_reducible apply le_size_setCell | with_reducible refine Nat.le_trans ?_ (Below.size (by assumption))))
    · exact ⟨_, rfl, Blk.new_ rfl rfl⟩
  (try simp only [Act.put, List.setIfInBounds_toArray, List.set_cons_zero, List.set_cons_succ, List.nil_append, List.cons_append])
  refine chain_is ?sr10n11 ?rr10n11
  case sr10n11 =>
    intro w hbw hd K Q' hK
    obtain ⟨g, rfl, kg⟩ : LitS 3 1 [.int .i64 2] _ w := hd 10 _ _ (by rfl) rfl rfl
    clear hd
    go_simp
    refine (same_lit SA4 _ sa4 _ 1 [2] _ rfl (Ssa_101.out.ext hbw) (Sl.of_lit (t := 3) (xs := [2]) kg) (by omega)).mono ?_
    rintro e x ⟨rfl, hx⟩
    go_wp2_with fail
    refine hK.out (.bool true) _ _ ?_ ?_ rfl
    · (simp only [Act.put, List.setIfInBounds_toArray, List.set_cons_zero, List.set_cons_succ, List.nil_append, List.cons_append])
    · exact (by repeat' (first | with_reducible exact Below.refl _ _ | with_reducible assumption | with_reducible apply Below.drew | with_reducible apply below_drewN | with_reducible apply Below.alloc | with_reducible apply Below.setCell | (with_reducible refine Below.trans ?_ (Below.mono (by assumption) ?_)) | (simp; done) | (simp; omega) | omega | with_reducible apply le_size_alloc | with_reducible apply le_size_drewN | with_reducible apply le_size_drew | with_reducible apply le_size_setCell | with_reducible refine Nat.le_trans ?_ (Below.size (by assumption))))
  (try simp only [Act.put, List.setIfInBounds_toArray, List.set_cons_zero, List.set_cons_succ, List.nil_append, List.cons_append])
  refine chain_is (step_take (by rfl) ?yr10n12) ?rr10n12
  case yr10n12 =>
    intro w hbw hd
    clear hd
    go_simp
    first | done | with_reducible rfl
  (try simp only [Act.put, List.setIfInBounds_toArray, List.set_cons_zero, List.set_cons_succ, List.nil_append, List.cons_append])
  refine chain_is (step_take (by rfl) ?yr10n13) ?rr10n13
  case yr10n13 =>
    intro w hbw hd
    clear hd
    go_simp
    first | done | with_reducible rfl
  (try simp only [Act.put, List.setIfInBounds_toArray, List.set_cons_zero, List.set_cons_succ, List.nil_append, List.cons_append])
  refine chain_is (step_take (by rfl) ?yr10n14) ?rr10n14
  case yr10n14 =>
    intro w hbw hd
    clear hd
    go_simp
    first | done | with_reducible rfl
  (try simp only [Act.put, List.setIfInBounds_toArray, List.set_cons_zero, List.set_cons_succ, List.nil_append, List.cons_append])
  refine chain_is (step_take (by rfl) ?yr10n15) ?rr10n15
  case yr10n15 =>
    intro w hbw hd
    clear hd
    go_simp
    first | done | with_reducible rfl
  (try simp only [Act.put, List.setIfInBounds_toArray, List.set_cons_zero, List.set_cons_succ, List.nil_append, List.cons_append])
  refine chain_is (step_take (by rfl) ?yr10n16) ?rr10n16
  case yr10n16 =>
    intro w hbw hd
    clear hd
    go_simp
    first | done | with_reducible rfl
  (try simp only [Act.put, List.setIfInBounds_toArray, List.set_cons_zero, List.set_cons_succ, List.nil_append, List.cons_append])
  refine chain_is (step_take (by rfl) ?yr10n17) ?rr10n17
  case yr10n17 =>
    intro w hbw hd
    clear hd
    go_simp
    first | done | with_reducible rfl
  (try simp only [Act.put, List.setIfInBounds_toArray, List.set_cons_zero, List.set_cons_succ, List.nil_append, List.cons_append])
  refine chain_is (step_take (by rfl) ?yr10n18) ?rr10n18
  case yr10n18 =>
    intro w hbw hd
    have r0 : w.cell? ⟨x85.heap.size, 0, none⟩ = some (.slice SB1 1 sb1) := cell_keep hbw qsb0 zsb
    have r1 : w.cell? ⟨x85.heap.size, 1, none⟩ = some (.slice SB2 0 sb2) := cell_keep hbw qsb1 zsb
    have r2 : w.cell? ⟨x85.heap.size, 2, none⟩ = some (.slice SB3 8 sb3) := cell_keep hbw qsb2 zsb
    clear hd
    go_simp
    first | done | with_reducible rfl
  (try simp only [Act.put, List.setIfInBounds_toArray, List.set_cons_zero, List.set_cons_succ, List.nil_append, List.cons_append])
  refine chain_has ?sr10n19 (fun vr10n19 => ?rr10n19)
  case sr10n19 =>
    intro w hbw hd K Q' hK
    clear hd
    go_simp
    refine hK.out (.slice (some ⟨w.heap.size, 0, none⟩) 1 1) _ _ ?_ ?_ ?_
    · (simp only [Act.put, List.setIfInBounds_toArray, List.set_cons_zero, List.set_cons_succ, List.nil_append, List.cons_append])
    · exact (by repeat' (first | with_reducible exact Below.refl _ _ | with_reducible assumption | with_reducible apply Below.drew | with_reducible apply below_drewN | with_reducible apply Below.alloc | with_reducible apply Below.setCell | (with_reducible refine Below.trans ?_ (Below.mono (by assumption) ?_)) | (simp; done) | (simp; omega) | omega | with_reducible apply le_size_alloc | with_reducible apply le_size_drewN | with_reducible apply le_size_drew | with_reducible apply le_size_setCell | with_reducible refine Nat.le_trans ?_ (Below.size (by assumption))))
    · exact ⟨_, rfl, Blk.new_ rfl rfl⟩
  (try simp only [Act.put, List.setIfInBounds_toArray, List.set_cons_zero, List.set_cons_succ, List.nil_append, List.cons_append])
  refine chain_has ?sr10n20 (fun vr10n20 => ?rr10n20)
  case sr10n20 =>
    intro w hbw hd K Q' hK
    obtain ⟨g0, rfl, k0⟩ : LitS 3 1 [.int .i64 1] _ w := hd 19 _ _ (by rfl) rfl rfl
    clear hd
    go_simp
    refine (lists_any (some ⟨g0, 0, none⟩) none none 1 0 1 0 0 ([] : List Int) _ Sl.nil (by simp) (by simp)).mono ?_
    rintro e x ⟨g, rfl, s, _, hx⟩
    go_wp2_with fail
    refine hK.out (.agg #[.slice (some ⟨g0, 0, none⟩) 1 1, .slice none 0 0, .slice (some ⟨g, 0, none⟩) 8 8]) _ _ ?_ ?_ ?_
    · (simp only [Act.put, List.setIfInBounds_toArray, List.set_cons_zero, List.set_cons_succ, List.nil_append, List.cons_append])
    · exact (by repeat' (first | with_reducible exact Below.refl _ _ | with_reducible assumption | with_reducible apply Below.drew | with_reducible apply below_drewN | with_reducible apply Below.alloc | with_reducible apply Below.setCell | (with_reducible refine Below.trans ?_ (Below.mono (by assumption) ?_)) | (simp; done) | (simp; omega) | omega | with_reducible apply le_size_alloc | with_reducible apply le_size_drewN | with_reducible apply le_size_drew | with_reducible apply le_size_setCell | with_reducible refine Nat.le_trans ?_ (Below.size (by assumption))))
    · exact ⟨_, _, _, rfl, inMem_lit (Sl.of_lit (t := 3) (xs := [1]) (k0.below_ hx k0.lt)) Sl.nil s (by simp) (by simp) (by simp) (by simp) (by simp)⟩
  (try simp only [Act.put, List.setIfInBounds_toArray, List.set_cons_zero, List.set_cons_succ, List.nil_append, List.cons_append])
  refine chain_is ?sr10n21 ?rr10n21
  case sr10n21 =>
    intro w hbw hd K Q' hK
    obtain ⟨Q1, Q2, g, rfl, hm⟩ : LisS 1 0 [1] ([] : List Int) [false, false, false, false, false, false, false, false] _ w := hd 20 _ _ (by rfl) rfl rfl
    clear hd
    go_simp
    refine (same_lists SB1 SB2 SB3 Q1 Q2 (some ⟨g, 0, none⟩) sb1 sb2 sb3 1 0 8 [1] ([] : List Int) [false, false, false, false, false, false, false, false] _ (Msb_101.out.ext hbw) hm (by simp) (by simp) (by simp)).mono ?_
    rintro e x ⟨rfl, hx⟩
    go_wp2_with fail
    refine hK.out (.bool true) _ _ ?_ ?_ rfl
    · (simp only [Act.put, List.setIfInBounds_toArray, List.set_cons_zero, List.set_cons_succ, List.nil_append, List.cons_append])
    · exact (by repeat' (first | with_reducible exact Below.refl _ _ | with_reducible assumption | with_reducible apply Below.drew | with_reducible apply below_drewN | with_reducible apply Below.alloc | with_reducible apply Below.setCell | (with_reducible refine Below.trans ?_ (Below.mono (by assumption) ?_)) | (simp; done) | (simp; omega) | omega | with_reducible apply le_size_alloc | with_reducible apply le_size_drewN | with_reducible apply le_size_drew | with_reducible apply le_size_setCell | with_reducible refine Nat.le_trans ?_ (Below.size (by assumption))))
  (try simp only [Act.put, List.setIfInBounds_toArray, List.set_cons_zero, List.set_cons_succ, List.nil_append, List.cons_append])
  refine chain_is (step_take (by rfl) ?yr10n22) ?rr10n22
  case yr10n22 =>
    intro w hbw hd
    clear hd
    go_simp
    first | done | with_reducible rfl
  (try simp only [Act.put, List.setIfInBounds_toArray, List.set_cons_zero, List.set_cons_succ, List.nil_append, List.cons_append])
  refine chain_is (step_take (by rfl) ?yr10n23) ?rr10n23
  case yr10n23 =>
    intro w hbw hd
    clear hd
    go_simp
    first | done | with_reducible rfl
  (try simp only [Act.put, List.setIfInBounds_toArray, List.set_cons_zero, List.set_cons_succ, List.nil_append, List.cons_append])
  refine chain_is (step_take (by rfl) ?yr10n24) ?rr10n24
  case yr10n24 =>
    intro w hbw hd
    clear hd
    go_simp
    first | done | with_reducible rfl
  (try simp only [Act.put, List.setIfInBounds_toArray, List.set_cons_zero, List.set_cons_succ, List.nil_append, List.cons_append])
  refine chain_is (step_take (by rfl) ?yr10n25) ?rr10n25
  case yr10n25 =>
    intro w hbw hd
    clear hd
    go_simp
    first | done | with_reducible rfl
  (try simp only [Act.put, List.setIfInBounds_toArray, List.set_cons_zero, List.set_cons_succ, List.nil_append, List.cons_append])
  refine chain_is (step_take (by rfl) ?yr10n26) ?rr10n26
  case yr10n26 =>
    intro w hbw hd
    clear hd
    go_simp
    first | done | with_reducible rfl
  (try simp only [Act.put, List.setIfInBounds_toArray, List.set_cons_zero, List.set_cons_succ, List.nil_append, List.cons_append])
  refine chain_is (step_take (by rfl) ?yr10n27) ?rr10n27
  case yr10n27 =>
    intro w hbw hd
    clear hd
    go_simp
    first | done | with_reducible rfl
  (try simp only [Act.put, List.setIfInBounds_toArray, List.set_cons_zero, List.set_cons_succ, List.nil_append, List.cons_append])
  refine chain_is (step_take (by rfl) ?yr10n28) ?rr10n28
  case yr10n28 =>
    intro w hbw hd
    clear hd
    go_simp
    first | done | with_reducible rfl
  (try simp only [Act.put, List.setIfInBounds_toArray, List.set_cons_zero, List.set_cons_succ, List.nil_append, List.cons_append])
  refine chain_end (fun wz hbz hd => ?_)
  clear hd
  have bw103 : Below W0.heap.size W0 wz := (by repeat' (first | with_reducible exact Below.refl _ _ | with_reducible assumption | with_reducible apply Below.drew | with_reducible apply below_drewN | with_reducible apply Below.alloc | with_reducible apply Below.setCell | (with_reducible refine Below.trans ?_ (Below.mono (by assumption) ?_)) | (simp; done) | (simp; omega) | omega | with_reducible apply le_size_alloc | with_reducible apply le_size_drewN | with_reducible apply le_size_drew | with_reducible apply le_size_setCell | with_reducible refine Nat.le_trans ?_ (Below.size (by assumption))))
  have HB_103 : Hid (Below w.heap.size w wz) := HB_101.out.trans (bw103.mono HB_101.out.size)
  have Mn_103 : Hid (InMem wz none none (some ⟨gx1, 0, none⟩) ([] : List Int) ([] : List Int) [false, false, false, false, false, false, false, false]) := Mn_101.out.ext bw103
  have n_103 : Hid (Blk wz x1.heap.size 25 #[.slice none 0 0, .slice none 0 0, .slice (some ⟨gx1, 0, none⟩) 8 8]) := n_101.out.below_ bw103 n_101.out.lt
  have Msa_103 : Hid (InMem wz SA1 SA2 SA3 [3, 1] ([] : List Int) [false, false, false, false, false, false, false, false]) := Msa_101.out.ext bw103
  have Ssa_103 : Hid (Sl wz (.int .i64) SA4 [2]) := Ssa_101.out.ext bw103
  have sa_103 : Hid (Blk wz x77.heap.size 25 #[.slice SA1 2 sa1, .slice SA2 0 sa2, .slice SA3 8 sa3]) := sa_101.out.below_ bw103 sa_101.out.lt
  have Msb_103 : Hid (InMem wz SB1 SB2 SB3 [1] ([] : List Int) [false, false, false, false, false, false, false, false]) := Msb_101.out.ext bw103
  have Ssb_103 : Hid (Sl wz (.int .i64) SB4 ([] : List Int)) := Ssb_101.out.ext bw103
  have sb_103 : Hid (Blk wz x85.heap.size 25 #[.slice SB1 1 sb1, .slice SB2 0 sb2, .slice SB3 8 sb3]) := sb_101.out.below_ bw103 sb_101.out.lt
  have Ssc_103 : Hid (Sl wz (.int .i64) SC4 [1, 2]) := Ssc_101.out.ext bw103
  have Ssd_103 : Hid (Sl wz (.int .i64) SD4 [1, 2]) := Ssd_101.out.ext bw103
  clear bw103 hbz HB_101 Mn_101 n_101 Msa_101 Ssa_101 sa_101 Msb_101 Ssb_101 sb_101 Ssc_101 Ssd_101
  clear hz0 bw101 hb0 HB_100 Mn_100 n_100 Msa_100 Ssa_100 sa_100 Msb_100 Ssb_100 sb_100 Ssc_100 Ssd qsa0 qsa1 qsa2 zsa qsb0 qsb1 qsb2 zsb
  obtain ⟨x102, rfl⟩ : ∃ x102 : World, x102 = wz := ⟨_, rfl⟩
  clear Msa_103
  clear Msb_103
  clear Ssa_103
  clear Ssb_103
  clear sa_103
  clear sb_103
  go_wp2_with fail
  obtain ⟨y104, hy104⟩ : ∃ Y, (x102.alloc (.cells #[.int .i64 1, .int .i64 2] 3)) = Y := ⟨_, rfl⟩
  have by104 : Below x102.heap.size x102 y104 := by rw [← hy104]; exact (Below.refl _ _).alloc (Nat.le_refl _) _
  have ky104_0 : Blk y104 (x102.heap.size) 3 #[.int .i64 1, .int .i64 2] := by rw [← hy104]; exact Blk.new_ (by simp) rfl
  (try rw [hy104])
  clear hy104
  have bw105 : Below x102.heap.size x102 y104 := (by repeat' (first | with_reducible exact Below.refl _ _ | with_reducible assumption | with_reducible apply Below.drew | with_reducible apply below_drewN | with_reducible apply Below.alloc | with_reducible apply Below.setCell | (with_reducible refine Below.trans ?_ (Below.mono (by assumption) ?_)) | (simp; done) | (simp; omega) | omega | with_reducible apply le_size_alloc | with_reducible apply le_size_drewN | with_reducible apply le_size_drew | with_reducible apply le_size_setCell | with_reducible refine Nat.le_trans ?_ (Below.size (by assumption))))
  have HB_105 : Hid (Below w.heap.size w y104) := HB_103.out.trans (bw105.mono HB_103.out.size)
  have Mn_105 : Hid (InMem y104 none none (some ⟨gx1, 0, none⟩) ([] : List Int) ([] : List Int) [false, false, false, false, false, false, false, false]) := Mn_103.out.ext bw105
  have n_105 : Hid (Blk y104 x1.heap.size 25 #[.slice none 0 0, .slice none 0 0, .slice (some ⟨gx1, 0, none⟩) 8 8]) := n_103.out.below_ bw105 n_103.out.lt
  have Ssc_105 : Hid (Sl y104 (.int .i64) SC4 [1, 2]) := Ssc_103.out.ext bw105
  have Ssd_105 : Hid (Sl y104 (.int .i64) SD4 [1, 2]) := Ssd_103.out.ext bw105
  clear bw105 by104 HB_103 Mn_103 n_103 Ssc_103 Ssd_103
  refine (same_lit SC4 (some ⟨x102.heap.size, 0, none⟩) sc4 2 2 [1, 2] _ rfl Ssc_105.out (Sl.of_lit (t := 3) (xs := [1, 2]) ky104_0) (by omega)).mono ?_
  rintro e x106 ⟨rfl, hx106⟩
  have bw107 : Below y104.heap.size y104 x106 := (by repeat' (first | with_reducible exact Below.refl _ _ | with_reducible assumption | with_reducible apply Below.drew | with_reducible apply below_drewN | with_reducible apply Below.alloc | with_reducible apply Below.setCell | (with_reducible refine Below.trans ?_ (Below.mono (by assumption) ?_)) | (simp; done) | (simp; omega) | omega | with_reducible apply le_size_alloc | with_reducible apply le_size_drewN | with_reducible apply le_size_drew | with_reducible apply le_size_setCell | with_reducible refine Nat.le_trans ?_ (Below.size (by assumption))))
  have HB_107 : Hid (Below w.heap.size w x106) := HB_105.out.trans (bw107.mono HB_105.out.size)
  have Mn_107 : Hid (InMem x106 none none (some ⟨gx1, 0, none⟩) ([] : List Int) ([] : List Int) [false, false, false, false, false, false, false, false]) := Mn_105.out.ext bw107
  have n_107 : Hid (Blk x106 x1.heap.size 25 #[.slice none 0 0, .slice none 0 0, .slice (some ⟨gx1, 0, none⟩) 8 8]) := n_105.out.below_ bw107 n_105.out.lt
  have Ssc_107 : Hid (Sl x106 (.int .i64) SC4 [1, 2]) := Ssc_105.out.ext bw107
  have Ssd_107 : Hid (Sl x106 (.int .i64) SD4 [1, 2]) := Ssd_105.out.ext bw107
  clear bw107 hx106 HB_105 Mn_105 n_105 Ssc_105 Ssd_105
  clear ky104_0
  clear Ssc_107
  go_wp2_with fail
  obtain ⟨y108, hy108⟩ : ∃ Y, (x106.alloc (.cells #[.int .i64 1, .int .i64 2] 3)) = Y := ⟨_, rfl⟩
  have by108 : Below x106.heap.size x106 y108 := by rw [← hy108]; exact (Below.refl _ _).alloc (Nat.le_refl _) _
  have ky108_0 : Blk y108 (x106.heap.size) 3 #[.int .i64 1, .int .i64 2] := by rw [← hy108]; exact Blk.new_ (by simp) rfl
  (try rw [hy108])
  clear hy108
  have bw109 : Below x106.heap.size x106 y108 := (by repeat' (first | with_reducible exact Below.refl _ _ | with_reducible assumption | with_reducible apply Below.drew | with_reducible apply below_drewN | with_reducible apply Below.alloc | with_reducible apply Below.setCell | (with_reducible refine Below.trans ?_ (Below.mono (by assumption) ?_)) | (simp; done) | (simp; omega) | omega | with_reducible apply le_size_alloc | with_reducible apply le_size_drewN | with_reducible apply le_size_drew | with_reducible apply le_size_setCell | with_reducible refine Nat.le_trans ?_ (Below.size (by assumption))))
  have HB_109 : Hid (Below w.heap.size w y108) := HB_107.out.trans (bw109.mono HB_107.out.size)
  have Mn_109 : Hid (InMem y108 none none (some ⟨gx1, 0, none⟩) ([] : List Int) ([] : List Int) [false, false, false, false, false, false, false, false]) := Mn_107.out.ext bw109
  have n_109 : Hid (Blk y108 x1.heap.size 25 #[.slice none 0 0, .slice none 0 0, .slice (some ⟨gx1, 0, none⟩) 8 8]) := n_107.out.below_ bw109 n_107.out.lt
  have Ssd_109 : Hid (Sl y108 (.int .i64) SD4 [1, 2]) := Ssd_107.out.ext bw109
  clear bw109 by108 HB_107 Mn_107 n_107 Ssd_107
  refine (same_lit SD4 (some ⟨x106.heap.size, 0, none⟩) sd4 2 2 [1, 2] _ rfl Ssd_109.out (Sl.of_lit (t := 3) (xs := [1, 2]) ky108_0) (by omega)).mono ?_
  rintro e x110 ⟨rfl, hx110⟩
  have bw111 : Below y108.heap.size y108 x110 := (by repeat' (first | with_reducible exact Below.refl _ _ | with_reducible assumption | with_reducible apply Below.drew | with_reducible apply below_drewN | with_reducible apply Below.alloc | with_reducible apply Below.setCell | (with_reducible refine Below.trans ?_ (Below.mono (by assumption) ?_)) | (simp; done) | (simp; omega) | omega | with_reducible apply le_size_alloc | with_reducible apply le_size_drewN | with_reducible apply le_size_drew | with_reducible apply le_size_setCell | with_reducible refine Nat.le_trans ?_ (Below.size (by assumption))))
  have HB_111 : Hid (Below w.heap.size w x110) := HB_109.out.trans (bw111.mono HB_109.out.size)
  have Mn_111 : Hid (InMem x110 none none (some ⟨gx1, 0, none⟩) ([] : List Int) ([] : List Int) [false, false, false, false, false, false, false, false]) := Mn_109.out.ext bw111
  have n_111 : Hid (Blk x110 x1.heap.size 25 #[.slice none 0 0, .slice none 0 0, .slice (some ⟨gx1, 0, none⟩) 8 8]) := n_109.out.below_ bw111 n_109.out.lt
  have Ssd_111 : Hid (Sl x110 (.int .i64) SD4 [1, 2]) := Ssd_109.out.ext bw111
  clear bw111 hx110 HB_109 Mn_109 n_109 Ssd_109
  clear ky108_0
  clear Ssd_111
  go_wp2_with fail
  go_wp2_with fail
  refine wp_region_chain (.is (.bool true) :: .is ?fr12n1 :: .is ?fr12n2 :: .is ?fr12n3 :: .is ?fr12n4 :: .is ?fr12n5 :: .is ?fr12n6 :: .is ?fr12n7 :: .has (LitS 3 1 [.int .i64 1]) :: .has (LitS 3 1 [.int .i64 1]) :: .has (LisS 1 0 [1] ([] : List Int) [false, true, false, false, false, false, false, false]) :: .is ?fr12n11 :: .is (.bool true) :: .is ?fr12n13 :: .is ?fr12n14 :: .is ?fr12n15 :: .is ?fr12n16 :: .is ?fr12n17 :: .is ?fr12n18 :: .is ?fr12n19 :: .is ?fr12n20 :: .is ?fr12n21 :: .is ?fr12n22 :: .is ?fr12n23 :: .is ?fr12n24 :: .is ?fr12n25 :: .is ?fr12n26 :: .is ?fr12n27 :: .is ?fr12n28 :: .is ?fr12n29 :: .is ?fr12n30 :: .is ?fr12n31 :: .is ?fr12n32 :: .is ?fr12n33 :: .is ?fr12n34 :: .is ?fr12n35 :: .is ?fr12n36 :: []) (by kernel_rfl) (by kernel_rfl) (by kernel_rfl) (lasts_is (lasts_is (lasts_is (lasts_is (lasts_is (lasts_is (lasts_is (lasts_is (lasts_has (LitS.lasts 3 1 [.int .i64 1]) (lasts_has (LitS.lasts 3 1 [.int .i64 1]) (lasts_has (LisS.lasts 1 0 [1] ([] : List Int) [false, true, false, false, false, false, false, false]) (lasts_is (lasts_is (lasts_is (lasts_is (lasts_is (lasts_is (lasts_is (lasts_is (lasts_is (lasts_is (lasts_is (lasts_is (lasts_is (lasts_is (lasts_is (lasts_is (lasts_is (lasts_is (lasts_is (lasts_is (lasts_is (lasts_is (lasts_is (lasts_is (lasts_is (lasts_is lasts_nil))))))))))))))))))))))))))))))))))))) (fun W0 hb0 hz0 => ?_)
  rotate_left 32
  have bw112 : Below x110.heap.size x110 W0 := (by repeat' (first | with_reducible exact Below.refl _ _ | with_reducible assumption | with_reducible apply Below.drew | with_reducible apply below_drewN | with_reducible apply Below.alloc | with_reducible apply Below.setCell | (with_reducible refine Below.trans ?_ (Below.mono (by assumption) ?_)) | (simp; done) | (simp; omega) | omega | with_reducible apply le_size_alloc | with_reducible apply le_size_drewN | with_reducible apply le_size_drew | with_reducible apply le_size_setCell | with_reducible refine Nat.le_trans ?_ (Below.size (by assumption))))
  have HB_112 : Hid (Below w.heap.size w W0) := HB_111.out.trans (bw112.mono HB_111.out.size)
  have Mn_112 : Hid (InMem W0 none none (some ⟨gx1, 0, none⟩) ([] : List Int) ([] : List Int) [false, false, false, false, false, false, false, false]) := Mn_111.out.ext bw112
  have n_112 : Hid (Blk W0 x1.heap.size 25 #[.slice none 0 0, .slice none 0 0, .slice (some ⟨gx1, 0, none⟩) 8 8]) := n_111.out.below_ bw112 n_111.out.lt
  have qn0 : W0.cell? ⟨x1.heap.size, 0, none⟩ = some (.slice none 0 0) := (n_112.out.cell_ 0).trans (by simp)
  have qn1 : W0.cell? ⟨x1.heap.size, 1, none⟩ = some (.slice none 0 0) := (n_112.out.cell_ 1).trans (by simp)
  have qn2 : W0.cell? ⟨x1.heap.size, 2, none⟩ = some (.slice (some ⟨gx1, 0, none⟩) 8 8) := (n_112.out.cell_ 2).trans (by simp)
  have zn : x1.heap.size < W0.heap.size := n_112.out.lt
  refine chain_is ?sr12n0 ?rr12n0
  case sr12n0 =>
    intro w hbw hd K Q' hK
    clear hd
    go_simp
    refine (awake_any _).mono ?_
    rintro e x ⟨rfl, hx⟩
    go_wp2_with fail
    refine hK.out (.bool true) _ _ ?_ ?_ rfl
    · (simp only [Act.put, List.setIfInBounds_toArray, List.set_cons_zero, List.set_cons_succ, List.nil_append, List.cons_append])
    · exact (by repeat' (first | with_reducible exact Below.refl _ _ | with_reducible assumption | with_reducible apply Below.drew | with_reducible apply below_drewN | with_reducible apply Below.alloc | with_reducible apply Below.setCell | (with_reducible refine Below.trans ?_ (Below.mono (by assumption) ?_)) | (simp; done) | (simp; omega) | omega | with_reducible apply le_size_alloc | with_reducible apply le_size_drewN | with_reducible apply le_size_drew | with_reducible apply le_size_setCell | with_reducible refine Nat.le_trans ?_ (Below.size (by assumption))))
  (try simp only [Act.put, List.setIfInBounds_toArray, List.set_cons_zero, List.set_cons_succ, List.nil_append, List.cons_append])
  refine chain_is (step_take (by rfl) ?yr12n1) ?rr12n1
  case yr12n1 =>
    intro w hbw hd
    clear hd
    go_simp
    first | done | with_reducible rfl
  (try simp only [Act.put, List.setIfInBounds_toArray, List.set_cons_zero, List.set_cons_succ, List.nil_append, List.cons_append])
  refine chain_is (step_take (by rfl) ?yr12n2) ?rr12n2
  case yr12n2 =>
    intro w hbw hd
    clear hd
    go_simp
    first | done | with_reducible rfl
  (try simp only [Act.put, List.setIfInBounds_toArray, List.set_cons_zero, List.set_cons_succ, List.nil_append, List.cons_append])
  refine chain_is (step_take (by rfl) ?yr12n3) ?rr12n3
  case yr12n3 =>
    intro w hbw hd
    clear hd
    go_simp
    first | done | with_reducible rfl
  (try simp only [Act.put, List.setIfInBounds_toArray, List.set_cons_zero, List.set_cons_succ, List.nil_append, List.cons_append])
  refine chain_is (step_take (by rfl) ?yr12n4) ?rr12n4
  case yr12n4 =>
    intro w hbw hd
    clear hd
    go_simp
    first | done | with_reducible rfl
  (try simp only [Act.put, List.setIfInBounds_toArray, List.set_cons_zero, List.set_cons_succ, List.nil_append, List.cons_append])
  refine chain_is (step_take (by rfl) ?yr12n5) ?rr12n5
  case yr12n5 =>
    intro w hbw hd
    clear hd
    go_simp
    first | done | with_reducible rfl
  (try simp only [Act.put, List.setIfInBounds_toArray, List.set_cons_zero, List.set_cons_succ, List.nil_append, List.cons_append])
  refine chain_is (step_take (by rfl) ?yr12n6) ?rr12n6
  case yr12n6 =>
    intro w hbw hd
    clear hd
    go_simp
    first | done | with_reducible rfl
  (try simp only [Act.put, List.setIfInBounds_toArray, List.set_cons_zero, List.set_cons_succ, List.nil_append, List.cons_append])
  refine chain_is (step_take (by rfl) ?yr12n7) ?rr12n7
  case yr12n7 =>
    intro w hbw hd
    clear hd
    go_simp
    first | done | with_reducible rfl
  (try simp only [Act.put, List.setIfInBounds_toArray, List.set_cons_zero, List.set_cons_succ, List.nil_append, List.cons_append])
  refine chain_has ?sr12n8 (fun vr12n8 => ?rr12n8)
  case sr12n8 =>
    intro w hbw hd K Q' hK
    clear hd
    go_simp
    refine hK.out (.slice (some ⟨w.heap.size, 0, none⟩) 1 1) _ _ ?_ ?_ ?_
    · (simp only [Act.put, List.setIfInBounds_toArray, List.set_cons_zero, List.set_cons_succ, List.nil_append, List.cons_append])
    · exact (by repeat' (first | with_reducible exact Below.refl _ _ | with_reducible assumption | with_reducible apply Below.drew | with_reducible apply below_drewN | with_reducible apply Below.alloc | with_reducible apply Below.setCell | (with_reducible refine Below.trans ?_ (Below.mono (by assumption) ?_)) | (simp; done) | (simp; omega) | omega | with_reducible apply le_size_alloc | with_reducible apply le_size_drewN | with_reducible apply le_size_drew | with_reducible apply le_size_setCell | with_reducible refine Nat.le_trans ?_ (Below.size (by assumption))))
    · exact ⟨_, rfl, Blk.new_ rfl rfl⟩
  (try simp only [Act.put, List.setIfInBounds_toArray, List.set_cons_zero, List.set_cons_succ, List.nil_append, List.cons_append])
  refine chain_has ?sr12n9 (fun vr12n9 => ?rr12n9)
  case sr12n9 =>
    intro w hbw hd K Q' hK
    clear hd
    go_simp
    refine hK.out (.slice (some ⟨w.heap.size, 0, none⟩) 1 1) _ _ ?_ ?_ ?_
    · (simp only [Act.put, List.setIfInBounds_toArray, List.set_cons_zero, List.set_cons_succ, List.nil_append, List.cons_append])
    · exact (by repeat' (first | with_reducible exact Below.refl _ _ | with_reducible assumption | with_reducible apply Below.drew | with_reducible apply below_drewN | with_reducible apply Below.alloc | with_reducible apply Below.setCell | (with_reducible refine Below.trans ?_ (Below.mono (by assumption) ?_)) | (simp; done) | (simp; omega) | omega | with_reducible apply le_size_alloc | with_reducible apply le_size_drewN | with_reducible apply le_size_drew | with_reducible apply le_size_setCell | with_reducible refine Nat.le_trans ?_ (Below.size (by assumption))))
    · exact ⟨_, rfl, Blk.new_ rfl rfl⟩
  (try simp only [Act.put, List.setIfInBounds_toArray, List.set_cons_zero, List.set_cons_succ, List.nil_append, List.cons_append])
  refine chain_has ?sr12n10 (fun vr12n10 => ?rr12n10)
  case sr12n10 =>
    intro w hbw hd K Q' hK
    obtain ⟨g0, rfl, k0⟩ : LitS 3 1 [.int .i64 1] _ w := hd 8 _ _ (by rfl) rfl rfl
    obtain ⟨g2, rfl, k2⟩ : LitS 3 1 [.int .i64 1] _ w := hd 9 _ _ (by rfl) rfl rfl
    clear hd
    go_simp
    refine (lists_any (some ⟨g0, 0, none⟩) none (some ⟨g2, 0, none⟩) 1 0 1 0 1 [1] _ (Sl.of_lit (t := 3) (xs := [1]) k2) (by simp) (by simp)).mono ?_
    rintro e x ⟨g, rfl, s, _, hx⟩
    go_wp2_with fail
    refine hK.out (.agg #[.slice (some ⟨g0, 0, none⟩) 1 1, .slice none 0 0, .slice (some ⟨g, 0, none⟩) 8 8]) _ _ ?_ ?_ ?_
    · (simp only [Act.put, List.setIfInBounds_toArray, List.set_cons_zero, List.set_cons_succ, List.nil_append, List.cons_append])
    · exact (by repeat' (first | with_reducible exact Below.refl _ _ | with_reducible assumption | with_reducible apply Below.drew | with_reducible apply below_drewN | with_reducible apply Below.alloc | with_reducible apply Below.setCell | (with_reducible refine Below.trans ?_ (Below.mono (by assumption) ?_)) | (simp; done) | (simp; omega) | omega | with_reducible apply le_size_alloc | with_reducible apply le_size_drewN | with_reducible apply le_size_drew | with_reducible apply le_size_setCell | with_reducible refine Nat.le_trans ?_ (Below.size (by assumption))))
    · exact ⟨_, _, _, rfl, inMem_lit (Sl.of_lit (t := 3) (xs := [1]) (k0.below_ hx k0.lt)) Sl.nil s (by simp) (by simp) (by simp) (by simp) (by simp)⟩
  (try simp only [Act.put, List.setIfInBounds_toArray, List.set_cons_zero, List.set_cons_succ, List.nil_append, List.cons_append])
  refine chain_is (step_take (by rfl) ?yr12n11) ?rr12n11
  case yr12n11 =>
    intro w hbw hd
    have r0 : w.cell? ⟨x1.heap.size, 0, none⟩ = some (.slice none 0 0) := cell_keep hbw qn0 zn
    have r1 : w.cell? ⟨x1.heap.size, 1, none⟩ = some (.slice none 0 0) := cell_keep hbw qn1 zn
    have r2 : w.cell? ⟨x1.heap.size, 2, none⟩ = some (.slice (some ⟨gx1, 0, none⟩) 8 8) := cell_keep hbw qn2 zn
    clear hd
    go_simp
    first | done | with_reducible rfl
  (try simp only [Act.put, List.setIfInBounds_toArray, List.set_cons_zero, List.set_cons_succ, List.nil_append, List.cons_append])
  refine chain_is ?sr12n12 ?rr12n12
  case sr12n12 =>
    intro w hbw hd K Q' hK
    obtain ⟨Q1, Q2, g, rfl, hm⟩ : LisS 1 0 [1] ([] : List Int) [false, true, false, false, false, false, false, false] _ w := hd 10 _ _ (by rfl) rfl rfl
    have HQ : Hid (dirS [1] [] [false, true, false, false, false, false, false, false] = ⟨[], [], [false, false, false, false, false, false, false, false], 0⟩ ∧ dirF [1] [] [false, true, false, false, false, false, false, false] = 1) := ⟨by kernel_rfl, by kernel_rfl⟩
    clear hd
    go_simp
    refine (directs_any Q1 Q2 (some ⟨g, 0, none⟩) none none (some ⟨gx1, 0, none⟩) 1 0 8 0 0 8 [1] [] [] [] [false, true, false, false, false, false, false, false] [false, false, false, false, false, false, false, false] 1 _ hm (Mn_112.out.ext hbw) HQ.out (by simp) (by simp) (by simp)).mono ?_
    rintro e x ⟨rfl, hx⟩
    go_wp2_with fail
    refine hK.out (.bool true) _ _ ?_ ?_ rfl
    · (simp only [Act.put, List.setIfInBounds_toArray, List.set_cons_zero, List.set_cons_succ, List.nil_append, List.cons_append])
    · exact (by repeat' (first | with_reducible exact Below.refl _ _ | with_reducible assumption | with_reducible apply Below.drew | with_reducible apply below_drewN | with_reducible apply Below.alloc | with_reducible apply Below.setCell | (with_reducible refine Below.trans ?_ (Below.mono (by assumption) ?_)) | (simp; done) | (simp; omega) | omega | with_reducible apply le_size_alloc | with_reducible apply le_size_drewN | with_reducible apply le_size_drew | with_reducible apply le_size_setCell | with_reducible refine Nat.le_trans ?_ (Below.size (by assumption))))
  (try simp only [Act.put, List.setIfInBounds_toArray, List.set_cons_zero, List.set_cons_succ, List.nil_append, List.cons_append])
  refine chain_is (step_take (by rfl) ?yr12n13) ?rr12n13
  case yr12n13 =>
    intro w hbw hd
    clear hd
    go_simp
    first | done | with_reducible rfl
  (try simp only [Act.put, List.setIfInBounds_toArray, List.set_cons_zero, List.set_cons_succ, List.nil_append, List.cons_append])
  refine chain_is (step_take (by rfl) ?yr12n14) ?rr12n14
  case yr12n14 =>
    intro w hbw hd
    clear hd
    go_simp
    first | done | with_reducible rfl
  (try simp only [Act.put, List.setIfInBounds_toArray, List.set_cons_zero, List.set_cons_succ, List.nil_append, List.cons_append])
  refine chain_is (step_take (by rfl) ?yr12n15) ?rr12n15
  case yr12n15 =>
    intro w hbw hd
    clear hd
    go_simp
    first | done | with_reducible rfl
  (try simp only [Act.put, List.setIfInBounds_toArray, List.set_cons_zero, List.set_cons_succ, List.nil_append, List.cons_append])
  refine chain_is (step_take (by rfl) ?yr12n16) ?rr12n16
  case yr12n16 =>
    intro w hbw hd
    clear hd
    go_simp
    first | done | with_reducible rfl
  (try simp only [Act.put, List.setIfInBounds_toArray, List.set_cons_zero, List.set_cons_succ, List.nil_append, List.cons_append])
  refine chain_is (step_take (by rfl) ?yr12n17) ?rr12n17
  case yr12n17 =>
    intro w hbw hd
    clear hd
    go_simp
    first | done | with_reducible rfl
  (try simp only [Act.put, List.setIfInBounds_toArray, List.set_cons_zero, List.set_cons_succ, List.nil_append, List.cons_append])
  refine chain_is (step_take (by rfl) ?yr12n18) ?rr12n18
  case yr12n18 =>
    intro w hbw hd
    clear hd
    go_simp
    first | done | with_reducible rfl
  (try simp only [Act.put, List.setIfInBounds_toArray, List.set_cons_zero, List.set_cons_succ, List.nil_append, List.cons_append])
  refine chain_is (step_take (by rfl) ?yr12n19) ?rr12n19
  case yr12n19 =>
    intro w hbw hd
    clear hd
    go_simp
    first | done | with_reducible rfl
  (try simp only [Act.put, List.setIfInBounds_toArray, List.set_cons_zero, List.set_cons_succ, List.nil_append, List.cons_append])
  refine chain_is (step_take (by rfl) ?yr12n20) ?rr12n20
  case yr12n20 =>
    intro w hbw hd
    clear hd
    go_simp
    first | done | with_reducible rfl
  (try simp only [Act.put, List.setIfInBounds_toArray, List.set_cons_zero, List.set_cons_succ, List.nil_append, List.cons_append])
  refine chain_is (step_take (by rfl) ?yr12n21) ?rr12n21
  case yr12n21 =>
    intro w hbw hd
    clear hd
    go_simp
    first | done | with_reducible rfl
  (try simp only [Act.put, List.setIfInBounds_toArray, List.set_cons_zero, List.set_cons_succ, List.nil_append, List.cons_append])
  refine chain_is (step_take (by rfl) ?yr12n22) ?rr12n22
  case yr12n22 =>
    intro w hbw hd
    clear hd
    go_simp
    first | done | with_reducible rfl
  (try simp only [Act.put, List.setIfInBounds_toArray, List.set_cons_zero, List.set_cons_succ, List.nil_append, List.cons_append])
  refine chain_is (step_take (by rfl) ?yr12n23) ?rr12n23
  case yr12n23 =>
    intro w hbw hd
    clear hd
    go_simp
    first | done | with_reducible rfl
  (try simp only [Act.put, List.setIfInBounds_toArray, List.set_cons_zero, List.set_cons_succ, List.nil_append, List.cons_append])
  refine chain_is (step_take (by rfl) ?yr12n24) ?rr12n24
  case yr12n24 =>
    intro w hbw hd
    clear hd
    go_simp
    first | done | with_reducible rfl
  (try simp only [Act.put, List.setIfInBounds_toArray, List.set_cons_zero, List.set_cons_succ, List.nil_append, List.cons_append])
  refine chain_is (step_take (by rfl) ?yr12n25) ?rr12n25
  case yr12n25 =>
    intro w hbw hd
    clear hd
    go_simp
    first | done | with_reducible rfl
  (try simp only [Act.put, List.setIfInBounds_toArray, List.set_cons_zero, List.set_cons_succ, List.nil_append, List.cons_append])
  refine chain_is (step_take (by rfl) ?yr12n26) ?rr12n26
  case yr12n26 =>
    intro w hbw hd
    clear hd
    go_simp
    first | done | with_reducible rfl
  (try simp only [Act.put, List.setIfInBounds_toArray, List.set_cons_zero, List.set_cons_succ, List.nil_append, List.cons_append])
  refine chain_is (step_take (by rfl) ?yr12n27) ?rr12n27
  case yr12n27 =>
    intro w hbw hd
    clear hd
    go_simp
    first | done | with_reducible rfl
  (try simp only [Act.put, List.setIfInBounds_toArray, List.set_cons_zero, List.set_cons_succ, List.nil_append, List.cons_append])
  refine chain_is (step_take (by rfl) ?yr12n28) ?rr12n28
  case yr12n28 =>
    intro w hbw hd
    clear hd
    go_simp
    first | done | with_reducible rfl
  (try simp only [Act.put, List.setIfInBounds_toArray, List.set_cons_zero, List.set_cons_succ, List.nil_append, List.cons_append])
  refine chain_is (step_take (by rfl) ?yr12n29) ?rr12n29
  case yr12n29 =>
    intro w hbw hd
    clear hd
    go_simp
    first | done | with_reducible rfl
  (try simp only [Act.put, List.setIfInBounds_toArray, List.set_cons_zero, List.set_cons_succ, List.nil_append, List.cons_append])
  refine chain_is (step_take (by rfl) ?yr12n30) ?rr12n30
  case yr12n30 =>
    intro w hbw hd
    clear hd
    go_simp
    first | done | with_reducible rfl
  (try simp only [Act.put, List.setIfInBounds_toArray, List.set_cons_zero, List.set_cons_succ, List.nil_append, List.cons_append])
  refine chain_is (step_take (by rfl) ?yr12n31) ?rr12n31
  case yr12n31 =>
    intro w hbw hd
    clear hd
    go_simp
    first | done | with_reducible rfl
  (try simp only [Act.put, List.setIfInBounds_toArray, List.set_cons_zero, List.set_cons_succ, List.nil_append, List.cons_append])
  refine chain_is (step_take (by rfl) ?yr12n32) ?rr12n32
  case yr12n32 =>
    intro w hbw hd
    clear hd
    go_simp
    first | done | with_reducible rfl
  (try simp only [Act.put, List.setIfInBounds_toArray, List.set_cons_zero, List.set_cons_succ, List.nil_append, List.cons_append])
  refine chain_is (step_take (by rfl) ?yr12n33) ?rr12n33
  case yr12n33 =>
    intro w hbw hd
    clear hd
    go_simp
    first | done | with_reducible rfl
  (try simp only [Act.put, List.setIfInBounds_toArray, List.set_cons_zero, List.set_cons_succ, List.nil_append, List.cons_append])
  refine chain_is (step_take (by rfl) ?yr12n34) ?rr12n34
  case yr12n34 =>
    intro w hbw hd
    clear hd
    go_simp
    first | done | with_reducible rfl
  (try simp only [Act.put, List.setIfInBounds_toArray, List.set_cons_zero, List.set_cons_succ, List.nil_append, List.cons_append])
  refine chain_is (step_take (by rfl) ?yr12n35) ?rr12n35
  case yr12n35 =>
    intro w hbw hd
    clear hd
    go_simp
    first | done | with_reducible rfl
  (try simp only [Act.put, List.setIfInBounds_toArray, List.set_cons_zero, List.set_cons_succ, List.nil_append, List.cons_append])
  refine chain_is (step_take (by rfl) ?yr12n36) ?rr12n36
  case yr12n36 =>
    intro w hbw hd
    clear hd
    go_simp
    first | done | with_reducible rfl
  (try simp only [Act.put, List.setIfInBounds_toArray, List.set_cons_zero, List.set_cons_succ, List.nil_append, List.cons_append])
  refine chain_end (fun wz hbz hd => ?_)
  clear hd
  have bw114 : Below W0.heap.size W0 wz := (by repeat' (first | with_reducible exact Below.refl _ _ | with_reducible assumption | with_reducible apply Below.drew | with_reducible apply below_drewN | with_reducible apply Below.alloc | with_reducible apply Below.setCell | (with_reducible refine Below.trans ?_ (Below.mono (by assumption) ?_)) | (simp; done) | (simp; omega) | omega | with_reducible apply le_size_alloc | with_reducible apply le_size_drewN | with_reducible apply le_size_drew | with_reducible apply le_size_setCell | with_reducible refine Nat.le_trans ?_ (Below.size (by assumption))))
  have HB_114 : Hid (Below w.heap.size w wz) := HB_112.out.trans (bw114.mono HB_112.out.size)
  have Mn_114 : Hid (InMem wz none none (some ⟨gx1, 0, none⟩) ([] : List Int) ([] : List Int) [false, false, false, false, false, false, false, false]) := Mn_112.out.ext bw114
  have n_114 : Hid (Blk wz x1.heap.size 25 #[.slice none 0 0, .slice none 0 0, .slice (some ⟨gx1, 0, none⟩) 8 8]) := n_112.out.below_ bw114 n_112.out.lt
  clear bw114 hbz HB_112 Mn_112 n_112
  clear hz0 bw112 hb0 HB_111 Mn_111 n_111 qn0 qn1 qn2 zn
  obtain ⟨x113, rfl⟩ : ∃ x113 : World, x113 = wz := ⟨_, rfl⟩
  clear Mn_114
  clear n_114
  go_wp2
  go_ret
  exact ⟨by first | rfl | simp, HB_114.out⟩

set_option maxRecDepth 100000 in
theorem scanKnown_lifted (os : Os) (started : os.Started) (H : Type) (enc : TypeId × Value → H) :
    ReturnsInHanded {} Try.checked os 5 .any (Rows.scanKnownSpec.pre6 enc Try.prog Try.f5 Rows.scanKnownRow.domain false) (Rows.scanKnownSpec.post enc Try.prog Try.f5 false true false false) := by
  refine returnsInHanded_of_change (C := Try.checked) own started (by kernel_rfl) Try.func5
    (ChangeSpec.witness6 (enc := enc) (C := Try.checked) false ⟨#[], #[], []⟩ 8 (by kernel_rfl) (by kernel_rfl) (by kernel_rfl) (by kernel_rfl)) ?_
  intro W base args ds gs before hval0 hW hcnd _
  have hval : ∀ (j : Nat) t v, Try.f5.params[j]? = some t → args[j]? = some v → Value.okWide Try.prog W .any base t v := hval0
  have hW' := hW
  obtain ⟨p, q, hA0, hV, rfl, hfz, hnd⟩ := hW
  have hA : DataW.TrodAll enc Try.prog W 0 (fun _ => true) true Try.f5.params.toList args.toList ds p := hA0
  rw [Try.params5] at hA hval
  obtain ⟨rfl, rfl, rfl⟩ := trodAll_none hA
  obtain ⟨rfl, rfl⟩ := trodVars_none hV
  clear hA0 hval0
  refine (scanKnown_walk   W).mono fun e W' ⟨he, hb⟩ => ⟨_, he, ?_⟩
  exact law_post laidOut (s := Rows.scanKnownSpec) (B := 4) rfl rfl Try.underlying4 (by decide +kernel) hW' rfl hb

theorem scanKnown_holds : Rows.ScanKnownSaid :=
  OpenClaim.holds_of_wide 5 Try.f5 rfl rfl rfl rfl rfl rfl rfl ⟨rfl, rfl, rfl, rfl, rfl⟩ rfl rfl rfl rfl rfl (by kernel_rfl) Try.func5 (by kernel_rfl)
    (of_decide_eq_true (by kernel_rfl)) (by unfold Func.isWrapper; first | (rw [if_pos (by decide +kernel)]; kernel_rfl) | (rw [if_neg (by decide +kernel)]; exact ⟨rfl, rfl⟩))
    (fun os started H enc _ => scanKnown_lifted os started H enc)

end Go.Proofs.Ytiobbdfkimpfbaa
