/- OomVictims: scores, victims, ranks, or which errors. Written by gen_lov.py. -/
import Derived.Test.YtmbpjafiinfkkaaGreatDoorMvA
import Derived.Test.YtmbpjafiinfkkaaGreatDoorOWC
namespace Go.Proofs.YtmbpjafiinfkkaaGreatDoor
set_option linter.unusedSimpArgs false
set_option linter.unusedVariables false
open Go.RowKit Go.Maps
open Go.ChangeShapes Go.WideShapes Go.ChangeAt Go.Joins

set_option maxRecDepth 100000 in
set_option maxHeartbeats 16000000 in
theorem oomVictims_walk (A : Option Addr) (c : Nat) (l : List PV) (D : Option Addr) (d : Nat) (sps : List Int) (w : World) (hs : SR procE w A l ∧ RgOk w l) (hl0 : l.length ≤ maxLen) (hs1 : Sl w (.int .i64) D sps) (_hw1 : ∀ x ∈ sps, (Lit.int .i64 x).wf = true) (hl1 : sps.length ≤ maxLen) (hal : AL w) :
    Calls Tryz.prog 3 #[.slice A l.length c, .slice D sps.length d] w fun e w' => e = .returned (.bool true) ∧ Below w.heap.size w w' := by
  have HAL := Lib.hid hal
  have hL := large_any A c l D d sps w hs.1 (by unfold maxLen at hl0; omega) (by unfold maxLen at hl1; omega)
  cases hb : largeB l sps with
  | true =>
    rw [hb] at hL
    clear hs hs1 hal hb hl0 hl1
    go_enter Tryz.func3, Tryz.ntmps3
    go_wp2_with fail
    refine hL.mono ?_
    rintro e w1 ⟨rfl, hb1⟩
    go_wp2_with fail
    refine (awake_any _ (HAL.out.ext hb1)).mono ?_
    rintro e w2 ⟨rfl, hb2⟩
    go_wp2
    refine bodyPost_ret (v := .bool true) (by simp [results, Tryz.results3, go_sem]) rfl ?_
    exact ⟨rfl, (by repeat' (first | with_reducible exact Below.refl _ _ | with_reducible assumption | with_reducible apply Below.drew | with_reducible apply below_drewN | with_reducible apply Below.alloc | with_reducible apply Below.setCell | (with_reducible refine Below.trans ?_ (Below.mono (by assumption) ?_)) | (simp; done) | (simp; omega) | omega | with_reducible apply le_size_alloc | with_reducible apply le_size_drewN | with_reducible apply le_size_drew | with_reducible apply le_size_setCell | refine Nat.le_trans ?_ (Below.size (by assumption))))⟩
  | false =>
    rw [hb] at hL
    obtain ⟨l10, s20, n70⟩ := large_no hb
    have HN := Lib.hid n70
    have HS : Hid (SR procE w A l) := hs.1
    have HG : Hid (RgOk w l) := hs.2
    have HD : Hid (Sl w (.int .i64) D sps) := hs1
    have hi1 : (l.length : Int) ≤ 10 := by omega
    -- the contracts
    have hOwn := fun w' (h1 : SR procE w' A l) (h2 : RgOk w' l) => own_any A c l w' h1 h2 l10 n70
    have hOwnI := fun w' (h : Sl w' (.int .i64) D sps) => OwnInts_any D d sps w' h (by omega)
    have hSc : ∀ B db l1 w', AL w' → SR procE w' B l1 → SameL w' l l1 → Calls Tryz.prog 13 #[.slice B l.length db] w' fun e w2 => (∃ A c, e = .returned (.tuple #[.slice A (scrX l).length c, .int .i64 (scrE l)]) ∧ Sl w2 (.int .i64) A (scrX l)) ∧ Below w'.heap.size w' w2 := fun B db l1 w' ha h hq => by
      have := Scores_any B db l1 w' ha h (by rw [hq.1]; omega)
      rw [hq.1] at this
      exact this.mono fun e w2 h2 => by
        have := h2.lst
        rw [show scrX l1 = scrX l by unfold scrX; rw [(sameL_scr hq).1, (sameL_scr hq).2], (sameL_scr hq).1] at this
        exact this
    have hrSc : ∀ w', SR procE w' A l → Calls Tryz.prog 14 #[.slice A l.length c] w' fun e w2 => (∃ A c, e = .returned (.tuple #[.slice A (scrX l).length c, .int .i64 (scrE l)]) ∧ Sl w2 (.int .i64) A (scrX l)) ∧ Below w'.heap.size w' w2 := fun w' h => (rScores_any A c l w' h (by omega)).mono fun e w2 h2 => h2.lst
    have hVi : ∀ B db l1 Z dz w', AL w' → SR procE w' B l1 → SameL w' l l1 → Sl w' (.int .i64) Z sps → Calls Tryz.prog 16 #[.slice B l.length db, .slice Z sps.length dz] w' fun e w2 => e = .returned (.tuple #[.int .i64 (vicI l sps), .int .i64 (vicE l sps)]) ∧ Below w'.heap.size w' w2 := fun B db l1 Z dz w' ha h hq hz => by
      have := Victim_any B db l1 Z dz sps w' ha h (by rw [hq.1]; omega) hz (by omega)
      rw [hq.1, (sameL_rnk hq sps).2.2.1, (sameL_rnk hq sps).2.2.2] at this
      exact this
    have hrVi : ∀ w', SR procE w' A l → Sl w' (.int .i64) D sps → Calls Tryz.prog 17 #[.slice A l.length c, .slice D sps.length d] w' fun e w2 => e = .returned (.tuple #[.int .i64 (vicI l sps), .int .i64 (vicE l sps)]) ∧ Below w'.heap.size w' w2 := fun w' h hz => rVictim_any A c l D d sps w' h (by omega) hz (by omega)
    have hRk : ∀ B db l1 Z dz w', AL w' → SR procE w' B l1 → SameL w' l l1 → Sl w' (.int .i64) Z sps → Calls Tryz.prog 18 #[.slice B l.length db, .slice Z sps.length dz] w' fun e w2 => (∃ A c, e = .returned (.tuple #[.slice A (rnkX l sps).length c, .int .i64 (rnkE l sps)]) ∧ Sl w2 (.int .i64) A (rnkX l sps)) ∧ Below w'.heap.size w' w2 := fun B db l1 Z dz w' ha h hq hz => by
      have := Ranks_any B db l1 Z dz sps w' ha h (by rw [hq.1]; omega) hz (by omega)
      rw [hq.1] at this
      exact this.mono fun e w2 h2 => by
        have := h2.lst
        rw [show rnkX l1 sps = rnkX l sps by unfold rnkX; rw [(sameL_rnk hq sps).1, (sameL_rnk hq sps).2.1], (sameL_rnk hq sps).1] at this
        exact this
    have hrRk : ∀ w', SR procE w' A l → Sl w' (.int .i64) D sps → Calls Tryz.prog 19 #[.slice A l.length c, .slice D sps.length d] w' fun e w2 => (∃ A c, e = .returned (.tuple #[.slice A (rnkX l sps).length c, .int .i64 (rnkE l sps)]) ∧ Sl w2 (.int .i64) A (rnkX l sps)) ∧ Below w'.heap.size w' w2 := fun w' h hz => (rRanks_any A c l D d sps w' h (by omega) hz (by omega)).mono fun e w2 h2 => h2.lst
    have hSame := fun B db l1 w' (h1 : SR procE w' B l1) (h2 : SR procE w' A l) (hq : SameL w' l l1) => same_any B db l1 A c l w' h1 h2 hq l10 n70
    have hX := scrX_len l10
    have hY := rnkX_len (sp := sps) l10
    generalize scrX l = X at *
    generalize scrE l = z at *
    generalize rnkX l sps = Y at *
    generalize rnkE l sps = z2 at *
    generalize vicI l sps = vi at *
    generalize vicE l sps = ve at *
    have B : Below w.heap.size w w := Below.refl _ _
    clear hs hs1 hal hb hl0 hl1 n70
    go_enter Tryz.func3, Tryz.ntmps3
    go_wp2_with fail
    refine (hL).mono ?_
    rintro e x0 ⟨rfl, hb⟩
    have d : Below w.heap.size w x0 := by clear B; exact (by repeat' (first | with_reducible exact Below.refl _ _ | with_reducible assumption | with_reducible apply Below.drew | with_reducible apply below_drewN | with_reducible apply Below.alloc | with_reducible apply Below.setCell | (with_reducible refine Below.trans ?_ (Below.mono (by assumption) ?_)) | (simp; done) | (simp; omega) | omega | with_reducible apply le_size_alloc | with_reducible apply le_size_drewN | with_reducible apply le_size_drew | with_reducible apply le_size_setCell | refine Nat.le_trans ?_ (Below.size (by assumption))))
    have b : Below w.heap.size w x0 := B.trans (d.mono B.size)
    have HS' : Hid (SR procE x0 A l) := HS.out.ext d
    have HG' : Hid (RgOk x0 l) := HG.out.ext d
    have HD' : Hid (Sl x0 (.int .i64) D sps) := HD.out.ext d
    clear hb B d HS HG HD hL
    have B := b
    clear b
    have HS := HS'
    clear HS'
    have HG := HG'
    clear HG'
    have HD := HD'
    clear HD'
    go_wp2_with fail
    refine (hOwn _ HS.out HG.out).mono ?_
    rintro e x1 ⟨⟨Bi, db, l1, rfl, hi, hq⟩, hb⟩
    have d : Below x0.heap.size x0 x1 := by clear B; exact (by repeat' (first | with_reducible exact Below.refl _ _ | with_reducible assumption | with_reducible apply Below.drew | with_reducible apply below_drewN | with_reducible apply Below.alloc | with_reducible apply Below.setCell | (with_reducible refine Below.trans ?_ (Below.mono (by assumption) ?_)) | (simp; done) | (simp; omega) | omega | with_reducible apply le_size_alloc | with_reducible apply le_size_drewN | with_reducible apply le_size_drew | with_reducible apply le_size_setCell | refine Nat.le_trans ?_ (Below.size (by assumption))))
    have b : Below w.heap.size w x1 := B.trans (d.mono B.size)
    have HS' : Hid (SR procE x1 A l) := HS.out.ext d
    have HD' : Hid (Sl x1 (.int .i64) D sps) := HD.out.ext d
    have HI : Hid (SR procE x1 Bi l1) := hi
    have HQ : Hid (SameL x1 l l1) := hq
    clear hb B d HS HD HG hi hq hOwn
    have B := b
    clear b
    have HS := HS'
    clear HS'
    have HD := HD'
    clear HD'
    go_wp2_with fail
    refine (hOwnI _ HD.out).mono ?_
    rintro e x2 ⟨⟨Z, dz, rfl, hz⟩, hb⟩
    have d : Below x1.heap.size x1 x2 := by clear B; exact (by repeat' (first | with_reducible exact Below.refl _ _ | with_reducible assumption | with_reducible apply Below.drew | with_reducible apply below_drewN | with_reducible apply Below.alloc | with_reducible apply Below.setCell | (with_reducible refine Below.trans ?_ (Below.mono (by assumption) ?_)) | (simp; done) | (simp; omega) | omega | with_reducible apply le_size_alloc | with_reducible apply le_size_drewN | with_reducible apply le_size_drew | with_reducible apply le_size_setCell | refine Nat.le_trans ?_ (Below.size (by assumption))))
    have b : Below w.heap.size w x2 := B.trans (d.mono B.size)
    have HS' : Hid (SR procE x2 A l) := HS.out.ext d
    have HD' : Hid (Sl x2 (.int .i64) D sps) := HD.out.ext d
    have HI' : Hid (SR procE x2 Bi l1) := HI.out.ext d
    have HQ' : Hid (SameL x2 l l1) := HQ.out.ext d
    have HZ : Hid (Sl x2 (.int .i64) Z sps) := hz
    clear hb B d HS HD HI HQ hz hOwnI
    have B := b
    clear b
    have HS := HS'
    clear HS'
    have HD := HD'
    clear HD'
    have HI := HI'
    clear HI'
    have HQ := HQ'
    clear HQ'
    go_wp2_with fail
    refine (hSc Bi db l1 _ (HAL.out.ext B) HI.out HQ.out).mono ?_
    rintro e x3 ⟨⟨A1, c1, rfl, hx⟩, hb⟩
    have d : Below x2.heap.size x2 x3 := by clear B; exact (by repeat' (first | with_reducible exact Below.refl _ _ | with_reducible assumption | with_reducible apply Below.drew | with_reducible apply below_drewN | with_reducible apply Below.alloc | with_reducible apply Below.setCell | (with_reducible refine Below.trans ?_ (Below.mono (by assumption) ?_)) | (simp; done) | (simp; omega) | omega | with_reducible apply le_size_alloc | with_reducible apply le_size_drewN | with_reducible apply le_size_drew | with_reducible apply le_size_setCell | refine Nat.le_trans ?_ (Below.size (by assumption))))
    have b : Below w.heap.size w x3 := B.trans (d.mono B.size)
    have HS' : Hid (SR procE x3 A l) := HS.out.ext d
    have HD' : Hid (Sl x3 (.int .i64) D sps) := HD.out.ext d
    have HI' : Hid (SR procE x3 Bi l1) := HI.out.ext d
    have HQ' : Hid (SameL x3 l l1) := HQ.out.ext d
    have HZ' : Hid (Sl x3 (.int .i64) Z sps) := HZ.out.ext d
    have HX : Hid (Sl x3 (.int .i64) A1 X) := hx
    clear hb B d HS HD HI HQ HZ hx hSc
    have B := b
    clear b
    have HS := HS'
    clear HS'
    have HD := HD'
    clear HD'
    have HI := HI'
    clear HI'
    have HQ := HQ'
    clear HQ'
    have HZ := HZ'
    clear HZ'
    go_wp2_with fail
    refine (hrSc _ HS.out).mono ?_
    rintro e x4 ⟨⟨A2, c2, rfl, hx⟩, hb⟩
    have d : Below x3.heap.size x3 x4 := by clear B; exact (by repeat' (first | with_reducible exact Below.refl _ _ | with_reducible assumption | with_reducible apply Below.drew | with_reducible apply below_drewN | with_reducible apply Below.alloc | with_reducible apply Below.setCell | (with_reducible refine Below.trans ?_ (Below.mono (by assumption) ?_)) | (simp; done) | (simp; omega) | omega | with_reducible apply le_size_alloc | with_reducible apply le_size_drewN | with_reducible apply le_size_drew | with_reducible apply le_size_setCell | refine Nat.le_trans ?_ (Below.size (by assumption))))
    have b : Below w.heap.size w x4 := B.trans (d.mono B.size)
    have HS' : Hid (SR procE x4 A l) := HS.out.ext d
    have HD' : Hid (Sl x4 (.int .i64) D sps) := HD.out.ext d
    have HI' : Hid (SR procE x4 Bi l1) := HI.out.ext d
    have HQ' : Hid (SameL x4 l l1) := HQ.out.ext d
    have HZ' : Hid (Sl x4 (.int .i64) Z sps) := HZ.out.ext d
    have HX' : Hid (Sl x4 (.int .i64) A1 X) := HX.out.ext d
    have HX2 : Hid (Sl x4 (.int .i64) A2 X) := hx
    clear hb B d HS HD HI HQ HZ HX hx hrSc
    have B := b
    clear b
    have HS := HS'
    clear HS'
    have HD := HD'
    clear HD'
    have HI := HI'
    clear HI'
    have HQ := HQ'
    clear HQ'
    have HZ := HZ'
    clear HZ'
    have HX := HX'
    clear HX'
    go_wp2_with fail
    refine (SameInts_any A1 A2 c1 c2 X X _ HX.out HX2.out (by omega) (by omega)).mono ?_
    rw [decide_eq_true rfl]
    rintro e x5 ⟨rfl, hb⟩
    have d : Below x4.heap.size x4 x5 := by clear B; exact (by repeat' (first | with_reducible exact Below.refl _ _ | with_reducible assumption | with_reducible apply Below.drew | with_reducible apply below_drewN | with_reducible apply Below.alloc | with_reducible apply Below.setCell | (with_reducible refine Below.trans ?_ (Below.mono (by assumption) ?_)) | (simp; done) | (simp; omega) | omega | with_reducible apply le_size_alloc | with_reducible apply le_size_drewN | with_reducible apply le_size_drew | with_reducible apply le_size_setCell | refine Nat.le_trans ?_ (Below.size (by assumption))))
    have b : Below w.heap.size w x5 := B.trans (d.mono B.size)
    have HS' : Hid (SR procE x5 A l) := HS.out.ext d
    have HD' : Hid (Sl x5 (.int .i64) D sps) := HD.out.ext d
    have HI' : Hid (SR procE x5 Bi l1) := HI.out.ext d
    have HQ' : Hid (SameL x5 l l1) := HQ.out.ext d
    have HZ' : Hid (Sl x5 (.int .i64) Z sps) := HZ.out.ext d
    clear hb B d HS HD HI HQ HZ HX HX2
    have B := b
    clear b
    have HS := HS'
    clear HS'
    have HD := HD'
    clear HD'
    have HI := HI'
    clear HI'
    have HQ := HQ'
    clear HQ'
    have HZ := HZ'
    clear HZ'
    go_wp2_with fail
    refine (hVi Bi db l1 Z dz _ (HAL.out.ext B) HI.out HQ.out HZ.out).mono ?_
    rintro e x6 ⟨rfl, hb⟩
    have d : Below x5.heap.size x5 x6 := by clear B; exact (by repeat' (first | with_reducible exact Below.refl _ _ | with_reducible assumption | with_reducible apply Below.drew | with_reducible apply below_drewN | with_reducible apply Below.alloc | with_reducible apply Below.setCell | (with_reducible refine Below.trans ?_ (Below.mono (by assumption) ?_)) | (simp; done) | (simp; omega) | omega | with_reducible apply le_size_alloc | with_reducible apply le_size_drewN | with_reducible apply le_size_drew | with_reducible apply le_size_setCell | refine Nat.le_trans ?_ (Below.size (by assumption))))
    have b : Below w.heap.size w x6 := B.trans (d.mono B.size)
    have HS' : Hid (SR procE x6 A l) := HS.out.ext d
    have HD' : Hid (Sl x6 (.int .i64) D sps) := HD.out.ext d
    have HI' : Hid (SR procE x6 Bi l1) := HI.out.ext d
    have HQ' : Hid (SameL x6 l l1) := HQ.out.ext d
    have HZ' : Hid (Sl x6 (.int .i64) Z sps) := HZ.out.ext d
    clear hb B d HS HD HI HQ HZ hVi
    have B := b
    clear b
    have HS := HS'
    clear HS'
    have HD := HD'
    clear HD'
    have HI := HI'
    clear HI'
    have HQ := HQ'
    clear HQ'
    have HZ := HZ'
    clear HZ'
    go_wp2_with fail
    refine (hrVi _ HS.out HD.out).mono ?_
    rintro e x7 ⟨rfl, hb⟩
    have d : Below x6.heap.size x6 x7 := by clear B; exact (by repeat' (first | with_reducible exact Below.refl _ _ | with_reducible assumption | with_reducible apply Below.drew | with_reducible apply below_drewN | with_reducible apply Below.alloc | with_reducible apply Below.setCell | (with_reducible refine Below.trans ?_ (Below.mono (by assumption) ?_)) | (simp; done) | (simp; omega) | omega | with_reducible apply le_size_alloc | with_reducible apply le_size_drewN | with_reducible apply le_size_drew | with_reducible apply le_size_setCell | refine Nat.le_trans ?_ (Below.size (by assumption))))
    have b : Below w.heap.size w x7 := B.trans (d.mono B.size)
    have HS' : Hid (SR procE x7 A l) := HS.out.ext d
    have HD' : Hid (Sl x7 (.int .i64) D sps) := HD.out.ext d
    have HI' : Hid (SR procE x7 Bi l1) := HI.out.ext d
    have HQ' : Hid (SameL x7 l l1) := HQ.out.ext d
    have HZ' : Hid (Sl x7 (.int .i64) Z sps) := HZ.out.ext d
    clear hb B d HS HD HI HQ HZ hrVi
    have B := b
    clear b
    have HS := HS'
    clear HS'
    have HD := HD'
    clear HD'
    have HI := HI'
    clear HI'
    have HQ := HQ'
    clear HQ'
    have HZ := HZ'
    clear HZ'
    go_wp2_with fail
    refine (hRk Bi db l1 Z dz _ (HAL.out.ext B) HI.out HQ.out HZ.out).mono ?_
    rintro e x8 ⟨⟨A3, c3, rfl, hx⟩, hb⟩
    have d : Below x7.heap.size x7 x8 := by clear B; exact (by repeat' (first | with_reducible exact Below.refl _ _ | with_reducible assumption | with_reducible apply Below.drew | with_reducible apply below_drewN | with_reducible apply Below.alloc | with_reducible apply Below.setCell | (with_reducible refine Below.trans ?_ (Below.mono (by assumption) ?_)) | (simp; done) | (simp; omega) | omega | with_reducible apply le_size_alloc | with_reducible apply le_size_drewN | with_reducible apply le_size_drew | with_reducible apply le_size_setCell | refine Nat.le_trans ?_ (Below.size (by assumption))))
    have b : Below w.heap.size w x8 := B.trans (d.mono B.size)
    have HS' : Hid (SR procE x8 A l) := HS.out.ext d
    have HD' : Hid (Sl x8 (.int .i64) D sps) := HD.out.ext d
    have HI' : Hid (SR procE x8 Bi l1) := HI.out.ext d
    have HQ' : Hid (SameL x8 l l1) := HQ.out.ext d
    have HZ' : Hid (Sl x8 (.int .i64) Z sps) := HZ.out.ext d
    have HY : Hid (Sl x8 (.int .i64) A3 Y) := hx
    clear hb B d HS HD HI HQ HZ hx hRk
    have B := b
    clear b
    have HS := HS'
    clear HS'
    have HD := HD'
    clear HD'
    have HI := HI'
    clear HI'
    have HQ := HQ'
    clear HQ'
    have HZ := HZ'
    clear HZ'
    go_wp2_with fail
    refine (hrRk _ HS.out HD.out).mono ?_
    rintro e x9 ⟨⟨A4, c4, rfl, hx⟩, hb⟩
    have d : Below x8.heap.size x8 x9 := by clear B; exact (by repeat' (first | with_reducible exact Below.refl _ _ | with_reducible assumption | with_reducible apply Below.drew | with_reducible apply below_drewN | with_reducible apply Below.alloc | with_reducible apply Below.setCell | (with_reducible refine Below.trans ?_ (Below.mono (by assumption) ?_)) | (simp; done) | (simp; omega) | omega | with_reducible apply le_size_alloc | with_reducible apply le_size_drewN | with_reducible apply le_size_drew | with_reducible apply le_size_setCell | refine Nat.le_trans ?_ (Below.size (by assumption))))
    have b : Below w.heap.size w x9 := B.trans (d.mono B.size)
    have HS' : Hid (SR procE x9 A l) := HS.out.ext d
    have HD' : Hid (Sl x9 (.int .i64) D sps) := HD.out.ext d
    have HI' : Hid (SR procE x9 Bi l1) := HI.out.ext d
    have HQ' : Hid (SameL x9 l l1) := HQ.out.ext d
    have HZ' : Hid (Sl x9 (.int .i64) Z sps) := HZ.out.ext d
    have HY' : Hid (Sl x9 (.int .i64) A3 Y) := HY.out.ext d
    have HY2 : Hid (Sl x9 (.int .i64) A4 Y) := hx
    clear hb B d HS HD HI HQ HZ HY hx hrRk
    have B := b
    clear b
    have HS := HS'
    clear HS'
    have HD := HD'
    clear HD'
    have HI := HI'
    clear HI'
    have HQ := HQ'
    clear HQ'
    have HZ := HZ'
    clear HZ'
    have HY := HY'
    clear HY'
    have zx9 := B.size
    go_wp2
    go_loopw [15] (fun i wr => ∃ k : Nat, k ≤ l.length ∧ i = .int .i64 k ∧ Below x9.heap.size x9 wr) (fun i _ => l.length - (intOf i).toNat)
    case atStart => exact ⟨0, by omega, rfl, Below.refl _ _⟩
    case round =>
      obtain ⟨k, hk, rfl, hbw⟩ := hrel
      have zwr := hbw.size
      by_cases hlt : k < l.length
      · obtain ⟨b2, o2, p, rfl, hb2, hpx, hR2⟩ := proc_at (HS.out.ext hbw) hlt
        obtain ⟨b1, o1, q, rfl, hb1, hqx, hR1⟩ := proc_at (HI.out.ext hbw) (show k < l1.length by rw [HQ.out.1]; exact hlt)
        obtain ⟨_, _, _, e4, _⟩ := (HQ.out.ext hbw).2 k p q hpx hqx
        have i1 : (k : Int) < l.length := by omega
        have hsc1 := fun w' ha => Score_any q w' ha
        have hsc2 := fun w' => rScore_any p w'
        rw [e4] at hsc1
        generalize (if scoE p.es = 0 then scoN p.es else 0) = n1 at hsc1 hsc2
        generalize scoE p.es = n2 at hsc1 hsc2
        unfold pvV at hsc1 hsc2
        clear hpx hqx e4
        go_wp2_with (first
          | (refine wpList_load_mid rfl 41 _ rfl b1 (o1 + k * 75) rfl (pvC q) _ hR1 Tryz.underlying41 rfl (sz75 q) ?_)
          | (go_at_call 20; refine (hsc1 _ (HAL.out.ext (B.trans (hbw.mono zx9)))).mono ?_; rintro e w3 ⟨rfl, hb3⟩; have hR2w : w3.rangeAt b2 (o2 + k * 75) (pvC p) := fun j v hv => cell_keep hb3 (hR2 j v hv) hb2)
          | (refine wpList_load_mid rfl 41 _ rfl b2 (o2 + k * 75) rfl (pvC p) _ hR2w Tryz.underlying41 rfl (sz75 p) ?_)
          | (go_at_call 21; refine (hsc2 _).mono ?_; rintro e w4 ⟨rfl, hb4⟩))
        go_roundw
        case rel => exact ⟨k + 1, by omega, by go_num, (hbw.trans (hb3.mono zwr)).trans (hb4.mono (Nat.le_trans zwr hb3.size))⟩
        case measure => simp [intOf]; omega
      · obtain rfl : k = l.length := by omega
        obtain ⟨x10, rfl⟩ : ∃ x, x = wr := ⟨_, rfl⟩
        have HI1 : Hid (SR procE x10 Bi l1) := HI.out.ext hbw
        have HS2 : Hid (SR procE x10 A l) := HS.out.ext hbw
        have HQ1 : Hid (SameL x10 l l1) := HQ.out.ext hbw
        have HD1 : Hid (Sl x10 (.int .i64) D sps) := HD.out.ext hbw
        have HZ1 : Hid (Sl x10 (.int .i64) Z sps) := HZ.out.ext hbw
        have HYa : Hid (Sl x10 (.int .i64) A3 Y) := HY.out.ext hbw
        have HYb : Hid (Sl x10 (.int .i64) A4 Y) := HY2.out.ext hbw
        have B10 : Below w.heap.size w x10 := B.trans (hbw.mono zx9)
        clear HI HS HQ HD HZ HY HY2 hlt hbw
        go_wp2_with fail
        refine (SameInts_any A3 A4 c3 c4 Y Y _ HYa.out HYb.out (by omega) (by omega)).mono ?_
        rw [decide_eq_true rfl]
        rintro e x11 ⟨rfl, hb11⟩
        go_wp2_with fail
        refine (hSame Bi db l1 _ (HI1.out.ext hb11) (HS2.out.ext hb11) (HQ1.out.ext hb11)).mono ?_
        rintro e x12 ⟨rfl, hb12⟩
        have d12 := hb11.trans (hb12.mono hb11.size)
        go_wp2_with fail
        refine (SameInts_any Z D dz d sps sps _ (HZ1.out.ext d12) (HD1.out.ext d12) (by omega) (by omega)).mono ?_
        rw [decide_eq_true rfl]
        rintro e x13 ⟨rfl, hb13⟩
        have d13 := d12.trans (hb13.mono d12.size)
        have B13 := B10.trans (d13.mono B10.size)
        clear hb11 hb12 hb13 d12 d13 B B10
        go_wp2_with fail
        refine (awake_any _ (HAL.out.ext B13)).mono ?_
        rintro e x14 ⟨rfl, hb14⟩
        go_wp2
        refine bodyPost_ret (v := .bool true) (by simp [results, Tryz.results3, go_sem]) rfl ?_
        exact ⟨rfl, B13.trans (hb14.mono B13.size)⟩

set_option maxRecDepth 100000 in
theorem oomVictims_lifted (os : Os) (started : os.Started) (H : Type) (enc : TypeId × Value → H) :
    ReturnsInHanded {} Tryz.checked os 3 .any (fun w args => (Rows.oomVictimsSpec.pre enc Tryz.prog Tryz.f3 [] false w args ∧ laidMetH Tryz.prog laidV w) ∧ sizedMet enc Tryz.prog Tryz.f3 (OpenSpec.ofChange Rows.oomVictimsSpec) false w args) (Rows.oomVictimsSpec.post enc Tryz.prog Tryz.f3 false true false false) := by
  refine returnsInHanded_of_change_and (C := Tryz.checked) (X := fun w _ => laidMetH Tryz.prog laidV w) (fun _ _ _ hh h => h.of_heap hh) own started (by kernel_rfl) Tryz.func3
    (ChangeSpec.witness_shaped (enc := enc) (C := Tryz.checked) (os := os) (X := fun w _ => laidMetH Tryz.prog laidV w) false (World.doorLaid Tryz.prog 400 os) #[.slice none 0 0, .slice none 0 0] 8 rfl (World.shaped_of_RefB (by kernel_rfl) (by kernel_rfl)) (by kernel_rfl) (by kernel_rfl) (by kernel_rfl) (door_met os _)) ?_
  intro W base args ds gs before hval0 hW hcnd _ hL _
  have hval : ∀ (j : Nat) t v, Tryz.f3.params[j]? = some t → args[j]? = some v → Value.okWide Tryz.prog W .any base t v := hval0
  have hW' := hW
  obtain ⟨p, q, hA0, hV, rfl, hfz, hnd⟩ := hW
  have hA : DataW.TrodAll enc Tryz.prog W 0 (fun _ => true) true Tryz.f3.params.toList args.toList ds p := hA0
  rw [Tryz.params3] at hA hval
  obtain ⟨v0, vs0, d0, ds0, p0, q0, hargs, rfl, rfl, h0, r0⟩ := trodAll_cons hA
  obtain ⟨v1, vs1, d1, ds1, p1, q1, rfl, rfl, rfl, h1, r1⟩ := trodAll_cons r0
  obtain ⟨rfl, rfl, rfl⟩ := trodAll_nil r1
  obtain rfl : args = #[v0, v1] := by cases args; simp_all
  obtain ⟨rfl, rfl⟩ := trodVars_none hV
  obtain ⟨A0, k0, a0, rfl, s0, l0⟩ := open_procs (hval 0 22 v0 rfl rfl) h0
  obtain ⟨A1, k1, a1, rfl, s1, w1, l1⟩ := open_slI Tryz.underlying23 Tryz.underlying3 (by kernel_rfl) (hval 1 23 v1 rfl rfl) h1
  clear hA0 hval0
  refine (oomVictims_walk A0 k0 a0 A1 k1 a1 W s0 l0 s1 w1 l1 (of_laid hL)).mono fun e W' ⟨he, hb⟩ => ⟨_, he, ?_⟩
  exact law_post laidOut (s := Rows.oomVictimsSpec) (B := 4) rfl rfl Tryz.underlying4 (by decide +kernel) hW' rfl hb

theorem oomVictims_holds : Rows.OomVictimsSaid :=
  OpenClaim.holds_of_wide 3 Tryz.f3 rfl rfl rfl rfl rfl rfl rfl ⟨rfl, rfl, rfl, rfl, rfl⟩ rfl rfl rfl rfl rfl (by kernel_rfl) Tryz.func3 (by kernel_rfl)
    (of_decide_eq_true (by kernel_rfl)) (by unfold Func.isWrapper; first | (rw [if_pos (by decide +kernel)]; kernel_rfl) | (rw [if_neg (by decide +kernel)]; exact ⟨rfl, rfl⟩))
    (fun os started H enc _ => oomVictims_lifted os started H enc)

theorem oomVictims_card : Rows.OomVictimsCardSaid :=
  Claim7.holds_tied_plain_at .later [] [.data] true Rows.oomVictimsCard.stood.harness false
    oomVictims_holds (fun _ h => by cases h) (by kernel_rfl) (fun _ h => by cases h) oomVictims_row_tie rfl ⟨rfl, rfl⟩ (by kernel_rfl) rfl
    (fun f fn hf hfn => by
      obtain rfl : f = 3 := Option.some.inj ((show Tryz.prog.funcNamed "headgate/headgatelaw34.OomVictims" = some 3 by kernel_rfl).symm.trans hf) |>.symm
      obtain rfl : fn = Tryz.f3 := (Option.some.inj (Tryz.func3.symm.trans hfn)).symm
      exact ⟨by kernel_rfl, fun j t ht => by
        have hall : (Tryz.f3.params.toList.all fun u => !Tryz.prog.wantsStandIn u) = true := by kernel_rfl
        have hm : t ∈ Tryz.f3.params.toList := by simpa using Array.mem_of_getElem? ht
        exact (show Tryz.prog.wantsStandIn t = false by simpa using List.all_eq_true.1 hall t hm)⟩)
    (by kernel_rfl)

end Go.Proofs.YtmbpjafiinfkkaaGreatDoor
