/- headgatelaw34.awake. Written by gen_ow3.py. No statement is proved here. -/
import Derived.Test.YtmbpjafiinfkkaaGreatDoorOW2
namespace Go.Proofs.YtmbpjafiinfkkaaGreatDoor
set_option linter.unusedSimpArgs false
set_option linter.unusedVariables false
open Go.RowKit Go.Maps

set_option maxRecDepth 100000 in
set_option maxHeartbeats 8000000 in
theorem awake_any (w : World) (hal : AL w) : Calls Tryz.prog 10 #[] w fun e w' => e = .returned (.bool true) ∧ Below w.heap.size w w' := by
  have HAL := Lib.hid hal
  clear hal
  have h0 : ∀ w, AL w → Calls Tryz.prog _ #[.slice (some ⟨w.heap.size, 0, none⟩) 4 4] _ _ := fun w ha => proc_lit [tP1w, tNone, tS3, tP2c] w ha (by decide)
  have h1 : ∀ w, AL w → Calls Tryz.prog _ #[.slice (some ⟨w.heap.size, 0, none⟩) 1 1] _ _ := fun w ha => proc_lit [tP4w] w ha (by decide)
  have h2 : ∀ w, AL w → Calls Tryz.prog _ #[.slice (some ⟨w.heap.size, 0, none⟩) 2 2] _ _ := fun w ha => proc_lit [tP1c, tS2] w ha (by decide)
  have h3 : ∀ w, AL w → Calls Tryz.prog _ #[.slice (some ⟨w.heap.size, 0, none⟩) 2 2] _ _ := fun w ha => proc_lit [tP1c, tP3w] w ha (by decide)
  have hSc : ∀ w, AL w → Calls Tryz.prog 20 #[pvV (prcT [tP1w, tNone, tS3, tP2c])] w fun e w' => e = .returned (.tuple #[.int .i64 3, .int .i64 0]) ∧ Below w.heap.size w w' := fun w ha => by
    have := Score_any (prcT [tP1w, tNone, tS3, tP2c]) w ha
    rw [awake_score.1, if_pos rfl, awake_score.2] at this
    exact this
  unfold pvV at hSc
  have hK : ∀ w, Calls Tryz.prog 25 #[cfgV 128 16 20 3 8 4 8 16 32] w fun e w' => e = .returned (.tuple #[.int .i64 87, .int .i64 0]) ∧ Below w.heap.size w w' := fun w => by
    have := K_any 128 16 20 3 8 4 8 16 32 w
    rw [awake_K.1, if_pos rfl, awake_K.2.1] at this
    exact this
  have hSf : ∀ w, Calls Tryz.prog 27 #[cfgV 128 16 20 3 8 4 8 16 32, .int .i64 61] w fun e w' => e = .returned (.tuple #[.bool true, .int .i64 0]) ∧ Below w.heap.size w w' := fun w => by
    have := Safe_any 128 16 20 3 8 4 8 16 32 61 w
    rw [awake_K.1, awake_K.2.2.1, if_pos rfl, awake_K.2.1, awake_K.2.2.2] at this
    exact this
  have hC := fun w => config_any w
  have hR : ∀ b w, AL w → SR procE w (some ⟨b, 0, none⟩) ranksL → Calls Tryz.prog 18 #[.slice (some ⟨b, 0, none⟩) 3 3, .slice none 0 0] w fun e w' => (∃ A c, e = .returned (.tuple #[.slice A 3 c, .int .i64 0]) ∧ Sl w' (.int .i64) A [2, 3, 1]) ∧ Below w.heap.size w w' := fun b w ha hs => by
    have := Ranks_any (some ⟨b, 0, none⟩) 3 ranksL none 0 [] w ha hs (by decide) Sl.nil (by simp)
    unfold RnkPost at this
    rw [awake_ranks.1, awake_ranks.2] at this
    exact this.mono fun e w' h => ⟨by obtain ⟨⟨A, c, h1, h2⟩, _⟩ := h; exact ⟨A, c, h1, h2 rfl⟩, h.2⟩
  have hT : ∀ w, Calls Tryz.prog 23 #[.agg (tlC talA)] w fun e w' => e = .returned (.tuple #[.bool true, .int .i64 0]) ∧ Below w.heap.size w w' := fun w => by
    have := Allowed_any talA (by unfold TOk talA; decide) w
    rw [awake_tally.1, awake_tally.2] at this
    exact this
  unfold tlC talA at hT
  dsimp only at hT
  have hV : ∀ b w, AL w → CR procE w (some ⟨b, 0, none⟩) 3 threeL → Calls Tryz.prog 33 #[.slice (some ⟨b, 0, none⟩) 3 3, .int .i64 1, .slice none 0 0] w fun e w' => e = .returned (.bool true) ∧ Below w.heap.size w w' := fun b w ha hs =>
    victim_any (some ⟨b, 0, none⟩) 3 threeL 1 none 0 [] w ha hs.1 (by decide) Sl.nil (by simp) awake_victim.1 awake_victim.2
  have hY : ∀ w, AL w → Calls Tryz.prog 34 #[.int .i64 2, .int .i64 2] w fun e w' => e = .returned (.bool true) ∧ Below w.heap.size w w' := fun w ha => yields_any 2 2 w ha awake_yields.1 awake_yields.2
  unfold ranksL at hR
  generalize prcT [tP1w, tNone, tS3, tP2c] = p0 at *
  generalize prcT [tP4w] = p1 at *
  generalize prcT [tP1c, tS2] = p2 at *
  generalize prcT [tP1c, tP3w] = p3 at *
  have h3t := fun w ha => three_any w ha
  generalize threeL = L at *
  generalize cfgV 128 16 20 3 8 4 8 16 32 = cfg at *
  have B : Below w.heap.size w w := Below.refl _ _
  go_enter Tryz.func10, Tryz.ntmps10
  go_wp2_with fail
  refine (h0 _ (HAL.out.ext B)).mono ?_
  rintro e x1 ⟨rfl, hb⟩
  have d : Below w.heap.size w x1 := by clear B; exact (by repeat' (first | with_reducible exact Below.refl _ _ | with_reducible assumption | with_reducible apply Below.drew | with_reducible apply below_drewN | with_reducible apply Below.alloc | with_reducible apply Below.setCell | (with_reducible refine Below.trans ?_ (Below.mono (by assumption) ?_)) | (simp; done) | (simp; omega) | omega | with_reducible apply le_size_alloc | with_reducible apply le_size_drewN | with_reducible apply le_size_drew | with_reducible apply le_size_setCell | refine Nat.le_trans ?_ (Below.size (by assumption))))
  have b : Below w.heap.size w x1 := B.trans (d.mono B.size)
  clear hb B d  h0
  have B := b
  clear b
  go_wp2_with fail
  refine (hSc _ (HAL.out.ext B)).mono ?_
  rintro e x2 ⟨rfl, hb⟩
  have d : Below x1.heap.size x1 x2 := by clear B; exact (by repeat' (first | with_reducible exact Below.refl _ _ | with_reducible assumption | with_reducible apply Below.drew | with_reducible apply below_drewN | with_reducible apply Below.alloc | with_reducible apply Below.setCell | (with_reducible refine Below.trans ?_ (Below.mono (by assumption) ?_)) | (simp; done) | (simp; omega) | omega | with_reducible apply le_size_alloc | with_reducible apply le_size_drewN | with_reducible apply le_size_drew | with_reducible apply le_size_setCell | refine Nat.le_trans ?_ (Below.size (by assumption))))
  have b : Below w.heap.size w x2 := B.trans (d.mono B.size)
  clear hb B d  hSc
  have B := b
  clear b
  go_wp2_with fail
  refine (hC _).mono ?_
  rintro e x3 ⟨rfl, hb⟩
  have d : Below x2.heap.size x2 x3 := by clear B; exact (by repeat' (first | with_reducible exact Below.refl _ _ | with_reducible assumption | with_reducible apply Below.drew | with_reducible apply below_drewN | with_reducible apply Below.alloc | with_reducible apply Below.setCell | (with_reducible refine Below.trans ?_ (Below.mono (by assumption) ?_)) | (simp; done) | (simp; omega) | omega | with_reducible apply le_size_alloc | with_reducible apply le_size_drewN | with_reducible apply le_size_drew | with_reducible apply le_size_setCell | refine Nat.le_trans ?_ (Below.size (by assumption))))
  have b : Below w.heap.size w x3 := B.trans (d.mono B.size)
  clear hb B d  
  have B := b
  clear b
  go_wp2_with fail
  refine (hK _).mono ?_
  rintro e x4 ⟨rfl, hb⟩
  have d : Below x3.heap.size x3 x4 := by clear B; exact (by repeat' (first | with_reducible exact Below.refl _ _ | with_reducible assumption | with_reducible apply Below.drew | with_reducible apply below_drewN | with_reducible apply Below.alloc | with_reducible apply Below.setCell | (with_reducible refine Below.trans ?_ (Below.mono (by assumption) ?_)) | (simp; done) | (simp; omega) | omega | with_reducible apply le_size_alloc | with_reducible apply le_size_drewN | with_reducible apply le_size_drew | with_reducible apply le_size_setCell | refine Nat.le_trans ?_ (Below.size (by assumption))))
  have b : Below w.heap.size w x4 := B.trans (d.mono B.size)
  clear hb B d  hK
  have B := b
  clear b
  go_wp2_with fail
  refine (hC _).mono ?_
  rintro e x5 ⟨rfl, hb⟩
  have d : Below x4.heap.size x4 x5 := by clear B; exact (by repeat' (first | with_reducible exact Below.refl _ _ | with_reducible assumption | with_reducible apply Below.drew | with_reducible apply below_drewN | with_reducible apply Below.alloc | with_reducible apply Below.setCell | (with_reducible refine Below.trans ?_ (Below.mono (by assumption) ?_)) | (simp; done) | (simp; omega) | omega | with_reducible apply le_size_alloc | with_reducible apply le_size_drewN | with_reducible apply le_size_drew | with_reducible apply le_size_setCell | refine Nat.le_trans ?_ (Below.size (by assumption))))
  have b : Below w.heap.size w x5 := B.trans (d.mono B.size)
  clear hb B d  
  have B := b
  clear b
  go_wp2_with fail
  refine (hSf _).mono ?_
  rintro e x6 ⟨rfl, hb⟩
  have d : Below x5.heap.size x5 x6 := by clear B; exact (by repeat' (first | with_reducible exact Below.refl _ _ | with_reducible assumption | with_reducible apply Below.drew | with_reducible apply below_drewN | with_reducible apply Below.alloc | with_reducible apply Below.setCell | (with_reducible refine Below.trans ?_ (Below.mono (by assumption) ?_)) | (simp; done) | (simp; omega) | omega | with_reducible apply le_size_alloc | with_reducible apply le_size_drewN | with_reducible apply le_size_drew | with_reducible apply le_size_setCell | refine Nat.le_trans ?_ (Below.size (by assumption))))
  have b : Below w.heap.size w x6 := B.trans (d.mono B.size)
  clear hb B d  hSf hC
  have B := b
  clear b
  go_wp2_with fail
  refine (h1 _ (HAL.out.ext B)).mono ?_
  rintro e x7 ⟨rfl, hb⟩
  have d : Below x6.heap.size x6 x7 := by clear B; exact (by repeat' (first | with_reducible exact Below.refl _ _ | with_reducible assumption | with_reducible apply Below.drew | with_reducible apply below_drewN | with_reducible apply Below.alloc | with_reducible apply Below.setCell | (with_reducible refine Below.trans ?_ (Below.mono (by assumption) ?_)) | (simp; done) | (simp; omega) | omega | with_reducible apply le_size_alloc | with_reducible apply le_size_drewN | with_reducible apply le_size_drew | with_reducible apply le_size_setCell | refine Nat.le_trans ?_ (Below.size (by assumption))))
  have b : Below w.heap.size w x7 := B.trans (d.mono B.size)
  clear hb B d  h1
  have B := b
  clear b
  go_wp2_with fail
  refine (h2 _ (HAL.out.ext B)).mono ?_
  rintro e x8 ⟨rfl, hb⟩
  have d : Below x7.heap.size x7 x8 := by clear B; exact (by repeat' (first | with_reducible exact Below.refl _ _ | with_reducible assumption | with_reducible apply Below.drew | with_reducible apply below_drewN | with_reducible apply Below.alloc | with_reducible apply Below.setCell | (with_reducible refine Below.trans ?_ (Below.mono (by assumption) ?_)) | (simp; done) | (simp; omega) | omega | with_reducible apply le_size_alloc | with_reducible apply le_size_drewN | with_reducible apply le_size_drew | with_reducible apply le_size_setCell | refine Nat.le_trans ?_ (Below.size (by assumption))))
  have b : Below w.heap.size w x8 := B.trans (d.mono B.size)
  clear hb B d  h2
  have B := b
  clear b
  go_wp2_with fail
  refine (h3 _ (HAL.out.ext B)).mono ?_
  rintro e x9 ⟨rfl, hb⟩
  have d : Below x8.heap.size x8 x9 := by clear B; exact (by repeat' (first | with_reducible exact Below.refl _ _ | with_reducible assumption | with_reducible apply Below.drew | with_reducible apply below_drewN | with_reducible apply Below.alloc | with_reducible apply Below.setCell | (with_reducible refine Below.trans ?_ (Below.mono (by assumption) ?_)) | (simp; done) | (simp; omega) | omega | with_reducible apply le_size_alloc | with_reducible apply le_size_drewN | with_reducible apply le_size_drew | with_reducible apply le_size_setCell | refine Nat.le_trans ?_ (Below.size (by assumption))))
  have b : Below w.heap.size w x9 := B.trans (d.mono B.size)
  clear hb B d  h3
  have B := b
  clear b
  go_wp2_with (refine wpList_buildP rfl 3 _ rfl [p1, p2, p3] rfl rfl (by simp) (by simp) ?_)
  refine (hR x9.heap.size _ (HAL.out.ext (by repeat' (first | with_reducible exact Below.refl _ _ | with_reducible assumption | with_reducible apply Below.drew | with_reducible apply below_drewN | with_reducible apply Below.alloc | with_reducible apply Below.setCell | (with_reducible refine Below.trans ?_ (Below.mono (by assumption) ?_)) | (simp; done) | (simp; omega) | omega | with_reducible apply le_size_alloc | with_reducible apply le_size_drewN | with_reducible apply le_size_drew | with_reducible apply le_size_setCell | refine Nat.le_trans ?_ (Below.size (by assumption))))) (SR.of_blk (Blk.new_ rfl rfl))).mono ?_
  rintro e x10 ⟨⟨A3, c3, rfl, hs⟩, hb⟩
  have d : Below x9.heap.size x9 x10 := by clear B; exact (by repeat' (first | with_reducible exact Below.refl _ _ | with_reducible assumption | with_reducible apply Below.drew | with_reducible apply below_drewN | with_reducible apply Below.alloc | with_reducible apply Below.setCell | (with_reducible refine Below.trans ?_ (Below.mono (by assumption) ?_)) | (simp; done) | (simp; omega) | omega | with_reducible apply le_size_alloc | with_reducible apply le_size_drewN | with_reducible apply le_size_drew | with_reducible apply le_size_setCell | refine Nat.le_trans ?_ (Below.size (by assumption))))
  have b : Below w.heap.size w x10 := B.trans (d.mono B.size)
  have HS : Hid (Sl x10 (.int .i64) A3 [2, 3, 1]) := hs
  clear hb B d  hR hs
  have B := b
  clear b
  go_wp2_with fail
  refine (hT _).mono ?_
  rintro e x11 ⟨rfl, hb⟩
  have d : Below x10.heap.size x10 x11 := by clear B; exact (by repeat' (first | with_reducible exact Below.refl _ _ | with_reducible assumption | with_reducible apply Below.drew | with_reducible apply below_drewN | with_reducible apply Below.alloc | with_reducible apply Below.setCell | (with_reducible refine Below.trans ?_ (Below.mono (by assumption) ?_)) | (simp; done) | (simp; omega) | omega | with_reducible apply le_size_alloc | with_reducible apply le_size_drewN | with_reducible apply le_size_drew | with_reducible apply le_size_setCell | refine Nat.le_trans ?_ (Below.size (by assumption))))
  have b : Below w.heap.size w x11 := B.trans (d.mono B.size)
  have HS' : Hid (Sl x11 (.int .i64) A3 [2, 3, 1]) := HS.out.ext d
  clear hb B d HS hT
  have B := b
  clear b
  have HS := HS'
  clear HS'
  go_wp2_with fail
  refine (h3t _ (HAL.out.ext (by repeat' (first | with_reducible exact Below.refl _ _ | with_reducible assumption | with_reducible apply Below.drew | with_reducible apply below_drewN | with_reducible apply Below.alloc | with_reducible apply Below.setCell | (with_reducible refine Below.trans ?_ (Below.mono (by assumption) ?_)) | (simp; done) | (simp; omega) | omega | with_reducible apply le_size_alloc | with_reducible apply le_size_drewN | with_reducible apply le_size_drew | with_reducible apply le_size_setCell | refine Nat.le_trans ?_ (Below.size (by assumption)))))).mono ?_
  rintro e x12 ⟨⟨b3, rfl, hc3⟩, hb⟩
  have d : Below x11.heap.size x11 x12 := by clear B; exact (by repeat' (first | with_reducible exact Below.refl _ _ | with_reducible assumption | with_reducible apply Below.drew | with_reducible apply below_drewN | with_reducible apply Below.alloc | with_reducible apply Below.setCell | (with_reducible refine Below.trans ?_ (Below.mono (by assumption) ?_)) | (simp; done) | (simp; omega) | omega | with_reducible apply le_size_alloc | with_reducible apply le_size_drewN | with_reducible apply le_size_drew | with_reducible apply le_size_setCell | refine Nat.le_trans ?_ (Below.size (by assumption))))
  have b : Below w.heap.size w x12 := B.trans (d.mono B.size)
  have HS' : Hid (Sl x12 (.int .i64) A3 [2, 3, 1]) := HS.out.ext d
  have HC : Hid (CR procE x12 (some ⟨b3, 0, none⟩) 3 L) := hc3
  clear hb B d HS h3t hc3
  have B := b
  clear b
  have HS := HS'
  clear HS'
  go_wp2_with fail
  refine (hV b3 _ (HAL.out.ext B) HC.out).mono ?_
  rintro e x13 ⟨rfl, hb⟩
  have d : Below x12.heap.size x12 x13 := by clear B; exact (by repeat' (first | with_reducible exact Below.refl _ _ | with_reducible assumption | with_reducible apply Below.drew | with_reducible apply below_drewN | with_reducible apply Below.alloc | with_reducible apply Below.setCell | (with_reducible refine Below.trans ?_ (Below.mono (by assumption) ?_)) | (simp; done) | (simp; omega) | omega | with_reducible apply le_size_alloc | with_reducible apply le_size_drewN | with_reducible apply le_size_drew | with_reducible apply le_size_setCell | refine Nat.le_trans ?_ (Below.size (by assumption))))
  have b : Below w.heap.size w x13 := B.trans (d.mono B.size)
  have HS' : Hid (Sl x13 (.int .i64) A3 [2, 3, 1]) := HS.out.ext d
  clear hb B d HS hV HC
  have B := b
  clear b
  have HS := HS'
  clear HS'
  go_wp2_with fail
  refine (hY _ (HAL.out.ext B)).mono ?_
  rintro e x14 ⟨rfl, hb⟩
  have d : Below x13.heap.size x13 x14 := by clear B; exact (by repeat' (first | with_reducible exact Below.refl _ _ | with_reducible assumption | with_reducible apply Below.drew | with_reducible apply below_drewN | with_reducible apply Below.alloc | with_reducible apply Below.setCell | (with_reducible refine Below.trans ?_ (Below.mono (by assumption) ?_)) | (simp; done) | (simp; omega) | omega | with_reducible apply le_size_alloc | with_reducible apply le_size_drewN | with_reducible apply le_size_drew | with_reducible apply le_size_setCell | refine Nat.le_trans ?_ (Below.size (by assumption))))
  have b : Below w.heap.size w x14 := B.trans (d.mono B.size)
  have HS' : Hid (Sl x14 (.int .i64) A3 [2, 3, 1]) := HS.out.ext d
  clear hb B d HS hY
  have B := b
  clear b
  have HS := HS'
  clear HS'
  go_wp2_with fail
  refine (SameInts_any A3 _ c3 _ [2, 3, 1] [2, 3, 1] _ (HS.out.ext (by repeat' (first | with_reducible exact Below.refl _ _ | with_reducible assumption | with_reducible apply Below.drew | with_reducible apply below_drewN | with_reducible apply Below.alloc | with_reducible apply Below.setCell | (with_reducible refine Below.trans ?_ (Below.mono (by assumption) ?_)) | (simp; done) | (simp; omega) | omega | with_reducible apply le_size_alloc | with_reducible apply le_size_drewN | with_reducible apply le_size_drew | with_reducible apply le_size_setCell | refine Nat.le_trans ?_ (Below.size (by assumption))))) (Sl.of_lit (t := 3) (xs := [2, 3, 1]) (by repeat' (first | with_reducible assumption | (with_reducible refine Blk.new_ ?_ ?_ <;> first | (simp; done) | rfl) | with_reducible apply Blk.drew_ | with_reducible apply Blk.drewN_ | with_reducible apply Blk.alloc_ | with_reducible refine Blk.far_ ?_ ?_ _ | (with_reducible refine Blk.below_ ?_ (by assumption) ?_) | (simp; done) | (simp; omega) | omega | with_reducible apply le_size_alloc | with_reducible apply lt_size_alloc | with_reducible apply le_size_drewN | with_reducible apply le_size_drew | with_reducible apply le_size_setCell | refine Nat.lt_of_lt_of_le ?_ (Below.size (by assumption)) | refine Nat.le_trans ?_ (Below.size (by assumption))))) (by simp) (by simp)).mono ?_
  rw [decide_eq_true rfl]
  rintro e x15 ⟨rfl, hb⟩
  go_wp2
  refine bodyPost_ret (v := .bool true) (by simp [results, Tryz.results10, go_sem]) rfl ?_
  exact ⟨rfl, (by repeat' (first | with_reducible exact Below.refl _ _ | with_reducible assumption | with_reducible apply Below.drew | with_reducible apply below_drewN | with_reducible apply Below.alloc | with_reducible apply Below.setCell | (with_reducible refine Below.trans ?_ (Below.mono (by assumption) ?_)) | (simp; done) | (simp; omega) | omega | with_reducible apply le_size_alloc | with_reducible apply le_size_drewN | with_reducible apply le_size_drew | with_reducible apply le_size_setCell | refine Nat.le_trans ?_ (Below.size (by assumption))))⟩
end Go.Proofs.YtmbpjafiinfkkaaGreatDoor
