/- headgatelaw34.OomKnown's walk. Written by gen_lok.py. No statement is proved here. -/
import Derived.Test.YtmbpjafiinfkkaaGreatDoorOW3
namespace Go.Proofs.YtmbpjafiinfkkaaGreatDoor
set_option linter.unusedSimpArgs false
set_option linter.unusedVariables false
open Go.RowKit Go.Maps

def scoresL : List PV := [prcT [tP1w], prcT [tNone]]
theorem known_scores : scrE scoresL = 0 ∧ scsL scoresL = [1, 0] := by decide +kernel
theorem known_none : vicE threeL [1, 2, 3] = 6 ∧ vicI threeL [1, 2, 3] = 0 := vic_none (by decide +kernel) (by decide +kernel)
theorem known_range : yldE (threeL.take 2) 3 = 2 ∧ yldI (threeL.take 2) 3 = 0 := by decide +kernel
theorem known_safe : safeE 0 62 = 0 ∧ safeB 128 20 87 62 = false := by decide +kernel
theorem known_cand : candL threeL [1] = [(2, 2), (3, 1)] := by decide +kernel
theorem known_victim : vicE threeL [1] = 0 ∧ vicI threeL [1] = 2 := vic_some (by decide +kernel) (m := (2, 2)) (by rw [known_cand]; exact ⟨by decide, by decide⟩)
theorem known_yields : yldE (threeL.take 2) 1 = 0 ∧ yldI (threeL.take 2) 1 = 1 := by decide +kernel

set_option maxRecDepth 100000 in
set_option maxHeartbeats 8000000 in
theorem oomKnown_walk (w : World) (hal : AL w) : Calls Tryz.prog 5 #[] w fun e w' => e = .returned (.bool true) ∧ Below w.heap.size w w' := by
  have HAL := Lib.hid hal
  clear hal
  have h0 : ∀ w, AL w → Calls Tryz.prog _ #[.slice (some ⟨w.heap.size, 0, none⟩) 1 1] _ _ := fun w ha => proc_lit [tP1w] w ha (by decide)
  have h1 : ∀ w, AL w → Calls Tryz.prog _ #[.slice (some ⟨w.heap.size, 0, none⟩) 1 1] _ _ := fun w ha => proc_lit [tNone] w ha (by decide)
  have hSc : ∀ b w, AL w → SR procE w (some ⟨b, 0, none⟩) scoresL → Calls Tryz.prog 13 #[.slice (some ⟨b, 0, none⟩) 2 2] w fun e w' => (∃ A c, e = .returned (.tuple #[.slice A 2 c, .int .i64 0]) ∧ Sl w' (.int .i64) A [1, 0]) ∧ Below w.heap.size w w' := fun b w ha hs => by
    have := Scores_any (some ⟨b, 0, none⟩) 2 scoresL w ha hs (by decide)
    unfold ScrPost at this
    rw [known_scores.1, known_scores.2] at this
    exact this.mono fun e w' h => ⟨by obtain ⟨⟨A, c, h1, h2⟩, _⟩ := h; exact ⟨A, c, h1, h2 rfl⟩, h.2⟩
  unfold scoresL at hSc
  have hVi : ∀ b g w, AL w → CR procE w (some ⟨b, 0, none⟩) 3 threeL → Sl w (.int .i64) (some ⟨g, 0, none⟩) [1, 2, 3] → Calls Tryz.prog 16 #[.slice (some ⟨b, 0, none⟩) 3 3, .slice (some ⟨g, 0, none⟩) 3 3] w fun e w' => e = .returned (.tuple #[.int .i64 0, .int .i64 6]) ∧ Below w.heap.size w w' := fun b g w ha hs hp => by
    have := Victim_any (some ⟨b, 0, none⟩) 3 threeL (some ⟨g, 0, none⟩) 3 [1, 2, 3] w ha hs.1 (by decide) hp (by simp)
    rw [known_none.1, known_none.2] at this
    exact this
  have hYi : ∀ b w, AL w → CR procE w (some ⟨b, 0, none⟩) 3 threeL → Calls Tryz.prog 31 #[.slice (some ⟨b, 0, none⟩) 2 3, .int .i64 3] w fun e w' => e = .returned (.tuple #[.int .i64 0, .int .i64 2]) ∧ Below w.heap.size w w' := fun b w ha hs => by
    have := Yield_any (some ⟨b, 0, none⟩) 3 (threeL.take 2) 3 w ha (hs.1.take 2) (by decide)
    rw [known_range.1, known_range.2] at this
    exact this
  have hSf : ∀ w, Calls Tryz.prog 27 #[cfgV 128 16 20 3 8 4 8 16 32, .int .i64 62] w fun e w' => e = .returned (.tuple #[.bool false, .int .i64 0]) ∧ Below w.heap.size w w' := fun w => by
    have := Safe_any 128 16 20 3 8 4 8 16 32 62 w
    rw [awake_K.1, known_safe.1, if_pos rfl, awake_K.2.1, known_safe.2] at this
    exact this
  have hC := fun w => config_any w
  have hA := fun w ha => awake_any w ha
  have hV : ∀ b g w, AL w → CR procE w (some ⟨b, 0, none⟩) 3 threeL → Sl w (.int .i64) (some ⟨g, 0, none⟩) [1] → Calls Tryz.prog 33 #[.slice (some ⟨b, 0, none⟩) 3 3, .int .i64 2, .slice (some ⟨g, 0, none⟩) 1 1] w fun e w' => e = .returned (.bool true) ∧ Below w.heap.size w w' := fun b g w ha hs hp =>
    victim_any (some ⟨b, 0, none⟩) 3 threeL 2 (some ⟨g, 0, none⟩) 1 [1] w ha hs.1 (by decide) hp (by simp) known_victim.1 known_victim.2
  have hY : ∀ w, AL w → Calls Tryz.prog 34 #[.int .i64 1, .int .i64 1] w fun e w' => e = .returned (.bool true) ∧ Below w.heap.size w w' := fun w ha => yields_any 1 1 w ha known_yields.1 known_yields.2
  generalize prcT [tP1w] = p1 at *
  generalize prcT [tNone] = p2 at *
  have h3t := fun w ha => three_any w ha
  generalize threeL = L at *
  generalize cfgV 128 16 20 3 8 4 8 16 32 = cfg at *
  have B : Below w.heap.size w w := Below.refl _ _
  go_enter Tryz.func5, Tryz.ntmps5
  go_wp2_with fail
  refine (h0 _ (HAL.out.ext B)).mono ?_
  rintro e x1 ⟨rfl, hb⟩
  have d : Below w.heap.size w x1 := by clear B; exact (by repeat' (first | with_reducible exact Below.refl _ _ | with_reducible assumption | with_reducible apply Below.drew | with_reducible apply below_drewN | with_reducible apply Below.alloc | with_reducible apply Below.setCell | (with_reducible refine Below.trans ?_ (Below.mono (by assumption) ?_)) | (simp; done) | (simp; omega) | omega | with_reducible apply le_size_alloc | with_reducible apply le_size_drewN | with_reducible apply le_size_drew | with_reducible apply le_size_setCell | refine Nat.le_trans ?_ (Below.size (by assumption))))
  have b : Below w.heap.size w x1 := B.trans (d.mono B.size)
  clear hb B d  h0
  have B := b
  clear b
  go_wp2_with fail
  refine (h1 _ (HAL.out.ext B)).mono ?_
  rintro e x2 ⟨rfl, hb⟩
  have d : Below x1.heap.size x1 x2 := by clear B; exact (by repeat' (first | with_reducible exact Below.refl _ _ | with_reducible assumption | with_reducible apply Below.drew | with_reducible apply below_drewN | with_reducible apply Below.alloc | with_reducible apply Below.setCell | (with_reducible refine Below.trans ?_ (Below.mono (by assumption) ?_)) | (simp; done) | (simp; omega) | omega | with_reducible apply le_size_alloc | with_reducible apply le_size_drewN | with_reducible apply le_size_drew | with_reducible apply le_size_setCell | refine Nat.le_trans ?_ (Below.size (by assumption))))
  have b : Below w.heap.size w x2 := B.trans (d.mono B.size)
  clear hb B d  h1
  have B := b
  clear b
  go_wp2_with (refine wpList_buildP rfl 2 _ rfl [p1, p2] rfl rfl (by simp) (by simp) ?_)
  refine (hSc x2.heap.size _ (HAL.out.ext (by repeat' (first | with_reducible exact Below.refl _ _ | with_reducible assumption | with_reducible apply Below.drew | with_reducible apply below_drewN | with_reducible apply Below.alloc | with_reducible apply Below.setCell | (with_reducible refine Below.trans ?_ (Below.mono (by assumption) ?_)) | (simp; done) | (simp; omega) | omega | with_reducible apply le_size_alloc | with_reducible apply le_size_drewN | with_reducible apply le_size_drew | with_reducible apply le_size_setCell | refine Nat.le_trans ?_ (Below.size (by assumption))))) (SR.of_blk (Blk.new_ rfl rfl))).mono ?_
  rintro e x3 ⟨⟨A3, c3, rfl, hs⟩, hb⟩
  have d : Below x2.heap.size x2 x3 := by clear B; exact (by repeat' (first | with_reducible exact Below.refl _ _ | with_reducible assumption | with_reducible apply Below.drew | with_reducible apply below_drewN | with_reducible apply Below.alloc | with_reducible apply Below.setCell | (with_reducible refine Below.trans ?_ (Below.mono (by assumption) ?_)) | (simp; done) | (simp; omega) | omega | with_reducible apply le_size_alloc | with_reducible apply le_size_drewN | with_reducible apply le_size_drew | with_reducible apply le_size_setCell | refine Nat.le_trans ?_ (Below.size (by assumption))))
  have b : Below w.heap.size w x3 := B.trans (d.mono B.size)
  have HS : Hid (Sl x3 (.int .i64) A3 [1, 0]) := hs
  clear hb B d  hSc hs
  have B := b
  clear b
  go_wp2_with fail
  refine (h3t _ (HAL.out.ext (by repeat' (first | with_reducible exact Below.refl _ _ | with_reducible assumption | with_reducible apply Below.drew | with_reducible apply below_drewN | with_reducible apply Below.alloc | with_reducible apply Below.setCell | (with_reducible refine Below.trans ?_ (Below.mono (by assumption) ?_)) | (simp; done) | (simp; omega) | omega | with_reducible apply le_size_alloc | with_reducible apply le_size_drewN | with_reducible apply le_size_drew | with_reducible apply le_size_setCell | refine Nat.le_trans ?_ (Below.size (by assumption)))))).mono ?_
  rintro e x4 ⟨⟨b3, rfl, hc3⟩, hb⟩
  have d : Below x3.heap.size x3 x4 := by clear B; exact (by repeat' (first | with_reducible exact Below.refl _ _ | with_reducible assumption | with_reducible apply Below.drew | with_reducible apply below_drewN | with_reducible apply Below.alloc | with_reducible apply Below.setCell | (with_reducible refine Below.trans ?_ (Below.mono (by assumption) ?_)) | (simp; done) | (simp; omega) | omega | with_reducible apply le_size_alloc | with_reducible apply le_size_drewN | with_reducible apply le_size_drew | with_reducible apply le_size_setCell | refine Nat.le_trans ?_ (Below.size (by assumption))))
  have b : Below w.heap.size w x4 := B.trans (d.mono B.size)
  have HS' : Hid (Sl x4 (.int .i64) A3 [1, 0]) := HS.out.ext d
  have HC : Hid (CR procE x4 (some ⟨b3, 0, none⟩) 3 L) := hc3
  clear hb B d HS hc3
  have B := b
  clear b
  have HS := HS'
  clear HS'
  go_wp2_with fail
  refine (hVi b3 x4.heap.size _ (HAL.out.ext (by repeat' (first | with_reducible exact Below.refl _ _ | with_reducible assumption | with_reducible apply Below.drew | with_reducible apply below_drewN | with_reducible apply Below.alloc | with_reducible apply Below.setCell | (with_reducible refine Below.trans ?_ (Below.mono (by assumption) ?_)) | (simp; done) | (simp; omega) | omega | with_reducible apply le_size_alloc | with_reducible apply le_size_drewN | with_reducible apply le_size_drew | with_reducible apply le_size_setCell | refine Nat.le_trans ?_ (Below.size (by assumption))))) (HC.out.ext ((Below.refl _ _).alloc (Nat.le_refl _) _)) (Sl.of_lit (t := 3) (xs := [1, 2, 3]) (by repeat' (first | with_reducible assumption | (with_reducible refine Blk.new_ ?_ ?_ <;> first | (simp; done) | rfl) | with_reducible apply Blk.drew_ | with_reducible apply Blk.drewN_ | with_reducible apply Blk.alloc_ | with_reducible refine Blk.far_ ?_ ?_ _ | (with_reducible refine Blk.below_ ?_ (by assumption) ?_) | (simp; done) | (simp; omega) | omega | with_reducible apply le_size_alloc | with_reducible apply lt_size_alloc | with_reducible apply le_size_drewN | with_reducible apply le_size_drew | with_reducible apply le_size_setCell | refine Nat.lt_of_lt_of_le ?_ (Below.size (by assumption)) | refine Nat.le_trans ?_ (Below.size (by assumption)))))).mono ?_
  rintro e x5 ⟨rfl, hb⟩
  have d : Below x4.heap.size x4 x5 := by clear B; exact (by repeat' (first | with_reducible exact Below.refl _ _ | with_reducible assumption | with_reducible apply Below.drew | with_reducible apply below_drewN | with_reducible apply Below.alloc | with_reducible apply Below.setCell | (with_reducible refine Below.trans ?_ (Below.mono (by assumption) ?_)) | (simp; done) | (simp; omega) | omega | with_reducible apply le_size_alloc | with_reducible apply le_size_drewN | with_reducible apply le_size_drew | with_reducible apply le_size_setCell | refine Nat.le_trans ?_ (Below.size (by assumption))))
  have b : Below w.heap.size w x5 := B.trans (d.mono B.size)
  have HS' : Hid (Sl x5 (.int .i64) A3 [1, 0]) := HS.out.ext d
  clear hb B d HS hVi HC
  have B := b
  clear b
  have HS := HS'
  clear HS'
  go_wp2_with fail
  refine (h3t _ (HAL.out.ext (by repeat' (first | with_reducible exact Below.refl _ _ | with_reducible assumption | with_reducible apply Below.drew | with_reducible apply below_drewN | with_reducible apply Below.alloc | with_reducible apply Below.setCell | (with_reducible refine Below.trans ?_ (Below.mono (by assumption) ?_)) | (simp; done) | (simp; omega) | omega | with_reducible apply le_size_alloc | with_reducible apply le_size_drewN | with_reducible apply le_size_drew | with_reducible apply le_size_setCell | refine Nat.le_trans ?_ (Below.size (by assumption)))))).mono ?_
  rintro e x6 ⟨⟨b3, rfl, hc3⟩, hb⟩
  have d : Below x5.heap.size x5 x6 := by clear B; exact (by repeat' (first | with_reducible exact Below.refl _ _ | with_reducible assumption | with_reducible apply Below.drew | with_reducible apply below_drewN | with_reducible apply Below.alloc | with_reducible apply Below.setCell | (with_reducible refine Below.trans ?_ (Below.mono (by assumption) ?_)) | (simp; done) | (simp; omega) | omega | with_reducible apply le_size_alloc | with_reducible apply le_size_drewN | with_reducible apply le_size_drew | with_reducible apply le_size_setCell | refine Nat.le_trans ?_ (Below.size (by assumption))))
  have b : Below w.heap.size w x6 := B.trans (d.mono B.size)
  have HS' : Hid (Sl x6 (.int .i64) A3 [1, 0]) := HS.out.ext d
  have HC : Hid (CR procE x6 (some ⟨b3, 0, none⟩) 3 L) := hc3
  clear hb B d HS hc3
  have B := b
  clear b
  have HS := HS'
  clear HS'
  go_wp2_with fail
  refine (hYi b3 _ (HAL.out.ext B) HC.out).mono ?_
  rintro e x7 ⟨rfl, hb⟩
  have d : Below x6.heap.size x6 x7 := by clear B; exact (by repeat' (first | with_reducible exact Below.refl _ _ | with_reducible assumption | with_reducible apply Below.drew | with_reducible apply below_drewN | with_reducible apply Below.alloc | with_reducible apply Below.setCell | (with_reducible refine Below.trans ?_ (Below.mono (by assumption) ?_)) | (simp; done) | (simp; omega) | omega | with_reducible apply le_size_alloc | with_reducible apply le_size_drewN | with_reducible apply le_size_drew | with_reducible apply le_size_setCell | refine Nat.le_trans ?_ (Below.size (by assumption))))
  have b : Below w.heap.size w x7 := B.trans (d.mono B.size)
  have HS' : Hid (Sl x7 (.int .i64) A3 [1, 0]) := HS.out.ext d
  clear hb B d HS hYi HC
  have B := b
  clear b
  have HS := HS'
  clear HS'
  go_wp2_with fail
  refine (hC _).mono ?_
  rintro e x8 ⟨rfl, hb⟩
  have d : Below x7.heap.size x7 x8 := by clear B; exact (by repeat' (first | with_reducible exact Below.refl _ _ | with_reducible assumption | with_reducible apply Below.drew | with_reducible apply below_drewN | with_reducible apply Below.alloc | with_reducible apply Below.setCell | (with_reducible refine Below.trans ?_ (Below.mono (by assumption) ?_)) | (simp; done) | (simp; omega) | omega | with_reducible apply le_size_alloc | with_reducible apply le_size_drewN | with_reducible apply le_size_drew | with_reducible apply le_size_setCell | refine Nat.le_trans ?_ (Below.size (by assumption))))
  have b : Below w.heap.size w x8 := B.trans (d.mono B.size)
  have HS' : Hid (Sl x8 (.int .i64) A3 [1, 0]) := HS.out.ext d
  clear hb B d HS hC
  have B := b
  clear b
  have HS := HS'
  clear HS'
  go_wp2_with fail
  refine (hSf _).mono ?_
  rintro e x9 ⟨rfl, hb⟩
  have d : Below x8.heap.size x8 x9 := by clear B; exact (by repeat' (first | with_reducible exact Below.refl _ _ | with_reducible assumption | with_reducible apply Below.drew | with_reducible apply below_drewN | with_reducible apply Below.alloc | with_reducible apply Below.setCell | (with_reducible refine Below.trans ?_ (Below.mono (by assumption) ?_)) | (simp; done) | (simp; omega) | omega | with_reducible apply le_size_alloc | with_reducible apply le_size_drewN | with_reducible apply le_size_drew | with_reducible apply le_size_setCell | refine Nat.le_trans ?_ (Below.size (by assumption))))
  have b : Below w.heap.size w x9 := B.trans (d.mono B.size)
  have HS' : Hid (Sl x9 (.int .i64) A3 [1, 0]) := HS.out.ext d
  clear hb B d HS hSf
  have B := b
  clear b
  have HS := HS'
  clear HS'
  go_wp2_with fail
  refine (hA _ (HAL.out.ext B)).mono ?_
  rintro e x10 ⟨rfl, hb⟩
  have d : Below x9.heap.size x9 x10 := by clear B; exact (by repeat' (first | with_reducible exact Below.refl _ _ | with_reducible assumption | with_reducible apply Below.drew | with_reducible apply below_drewN | with_reducible apply Below.alloc | with_reducible apply Below.setCell | (with_reducible refine Below.trans ?_ (Below.mono (by assumption) ?_)) | (simp; done) | (simp; omega) | omega | with_reducible apply le_size_alloc | with_reducible apply le_size_drewN | with_reducible apply le_size_drew | with_reducible apply le_size_setCell | refine Nat.le_trans ?_ (Below.size (by assumption))))
  have b : Below w.heap.size w x10 := B.trans (d.mono B.size)
  have HS' : Hid (Sl x10 (.int .i64) A3 [1, 0]) := HS.out.ext d
  clear hb B d HS hA
  have B := b
  clear b
  have HS := HS'
  clear HS'
  go_wp2_with fail
  refine (SameInts_any A3 _ c3 _ [1, 0] [1, 0] _ (HS.out.ext (by clear B; exact (by repeat' (first | with_reducible exact Below.refl _ _ | with_reducible assumption | with_reducible apply Below.drew | with_reducible apply below_drewN | with_reducible apply Below.alloc | with_reducible apply Below.setCell | (with_reducible refine Below.trans ?_ (Below.mono (by assumption) ?_)) | (simp; done) | (simp; omega) | omega | with_reducible apply le_size_alloc | with_reducible apply le_size_drewN | with_reducible apply le_size_drew | with_reducible apply le_size_setCell | refine Nat.le_trans ?_ (Below.size (by assumption)))))) (Sl.of_lit (t := 3) (xs := [1, 0]) (by repeat' (first | with_reducible assumption | (with_reducible refine Blk.new_ ?_ ?_ <;> first | (simp; done) | rfl) | with_reducible apply Blk.drew_ | with_reducible apply Blk.drewN_ | with_reducible apply Blk.alloc_ | with_reducible refine Blk.far_ ?_ ?_ _ | (with_reducible refine Blk.below_ ?_ (by assumption) ?_) | (simp; done) | (simp; omega) | omega | with_reducible apply le_size_alloc | with_reducible apply lt_size_alloc | with_reducible apply le_size_drewN | with_reducible apply le_size_drew | with_reducible apply le_size_setCell | refine Nat.lt_of_lt_of_le ?_ (Below.size (by assumption)) | refine Nat.le_trans ?_ (Below.size (by assumption))))) (by simp) (by simp)).mono ?_
  rw [decide_eq_true rfl]
  rintro e x11 ⟨rfl, hb⟩
  have d : Below x10.heap.size x10 x11 := by clear B; exact (by repeat' (first | with_reducible exact Below.refl _ _ | with_reducible assumption | with_reducible apply Below.drew | with_reducible apply below_drewN | with_reducible apply Below.alloc | with_reducible apply Below.setCell | (with_reducible refine Below.trans ?_ (Below.mono (by assumption) ?_)) | (simp; done) | (simp; omega) | omega | with_reducible apply le_size_alloc | with_reducible apply le_size_drewN | with_reducible apply le_size_drew | with_reducible apply le_size_setCell | refine Nat.le_trans ?_ (Below.size (by assumption))))
  have b : Below w.heap.size w x11 := B.trans (d.mono B.size)
  clear hb B d HS
  have B := b
  clear b
  go_wp2_with fail
  refine (h3t _ (HAL.out.ext B)).mono ?_
  rintro e x12 ⟨⟨b3, rfl, hc3⟩, hb⟩
  have d : Below x11.heap.size x11 x12 := by clear B; exact (by repeat' (first | with_reducible exact Below.refl _ _ | with_reducible assumption | with_reducible apply Below.drew | with_reducible apply below_drewN | with_reducible apply Below.alloc | with_reducible apply Below.setCell | (with_reducible refine Below.trans ?_ (Below.mono (by assumption) ?_)) | (simp; done) | (simp; omega) | omega | with_reducible apply le_size_alloc | with_reducible apply le_size_drewN | with_reducible apply le_size_drew | with_reducible apply le_size_setCell | refine Nat.le_trans ?_ (Below.size (by assumption))))
  have b : Below w.heap.size w x12 := B.trans (d.mono B.size)
  have HC : Hid (CR procE x12 (some ⟨b3, 0, none⟩) 3 L) := hc3
  clear hb B d  hc3 h3t
  have B := b
  clear b
  go_wp2_with fail
  refine (hV b3 x12.heap.size _ (HAL.out.ext (by repeat' (first | with_reducible exact Below.refl _ _ | with_reducible assumption | with_reducible apply Below.drew | with_reducible apply below_drewN | with_reducible apply Below.alloc | with_reducible apply Below.setCell | (with_reducible refine Below.trans ?_ (Below.mono (by assumption) ?_)) | (simp; done) | (simp; omega) | omega | with_reducible apply le_size_alloc | with_reducible apply le_size_drewN | with_reducible apply le_size_drew | with_reducible apply le_size_setCell | refine Nat.le_trans ?_ (Below.size (by assumption))))) (HC.out.ext ((Below.refl _ _).alloc (Nat.le_refl _) _)) (Sl.of_lit (t := 3) (xs := [1]) (by repeat' (first | with_reducible assumption | (with_reducible refine Blk.new_ ?_ ?_ <;> first | (simp; done) | rfl) | with_reducible apply Blk.drew_ | with_reducible apply Blk.drewN_ | with_reducible apply Blk.alloc_ | with_reducible refine Blk.far_ ?_ ?_ _ | (with_reducible refine Blk.below_ ?_ (by assumption) ?_) | (simp; done) | (simp; omega) | omega | with_reducible apply le_size_alloc | with_reducible apply lt_size_alloc | with_reducible apply le_size_drewN | with_reducible apply le_size_drew | with_reducible apply le_size_setCell | refine Nat.lt_of_lt_of_le ?_ (Below.size (by assumption)) | refine Nat.le_trans ?_ (Below.size (by assumption)))))).mono ?_
  rintro e x13 ⟨rfl, hb⟩
  have d : Below x12.heap.size x12 x13 := by clear B; exact (by repeat' (first | with_reducible exact Below.refl _ _ | with_reducible assumption | with_reducible apply Below.drew | with_reducible apply below_drewN | with_reducible apply Below.alloc | with_reducible apply Below.setCell | (with_reducible refine Below.trans ?_ (Below.mono (by assumption) ?_)) | (simp; done) | (simp; omega) | omega | with_reducible apply le_size_alloc | with_reducible apply le_size_drewN | with_reducible apply le_size_drew | with_reducible apply le_size_setCell | refine Nat.le_trans ?_ (Below.size (by assumption))))
  have b : Below w.heap.size w x13 := B.trans (d.mono B.size)
  clear hb B d  hV HC
  have B := b
  clear b
  go_wp2_with fail
  refine (hY _ (HAL.out.ext B)).mono ?_
  rintro e x14 ⟨rfl, hb⟩
  have d : Below x13.heap.size x13 x14 := by clear B; exact (by repeat' (first | with_reducible exact Below.refl _ _ | with_reducible assumption | with_reducible apply Below.drew | with_reducible apply below_drewN | with_reducible apply Below.alloc | with_reducible apply Below.setCell | (with_reducible refine Below.trans ?_ (Below.mono (by assumption) ?_)) | (simp; done) | (simp; omega) | omega | with_reducible apply le_size_alloc | with_reducible apply le_size_drewN | with_reducible apply le_size_drew | with_reducible apply le_size_setCell | refine Nat.le_trans ?_ (Below.size (by assumption))))
  have b : Below w.heap.size w x14 := B.trans (d.mono B.size)
  clear hb B d  hY
  have B := b
  clear b
  go_wp2
  refine bodyPost_ret (v := .bool true) (by simp [results, Tryz.results5, go_sem]) rfl ?_
  exact ⟨rfl, (by repeat' (first | with_reducible exact Below.refl _ _ | with_reducible assumption | with_reducible apply Below.drew | with_reducible apply below_drewN | with_reducible apply Below.alloc | with_reducible apply Below.setCell | (with_reducible refine Below.trans ?_ (Below.mono (by assumption) ?_)) | (simp; done) | (simp; omega) | omega | with_reducible apply le_size_alloc | with_reducible apply le_size_drewN | with_reducible apply le_size_drew | with_reducible apply le_size_setCell | refine Nat.le_trans ?_ (Below.size (by assumption))))⟩
end Go.Proofs.YtmbpjafiinfkkaaGreatDoor
