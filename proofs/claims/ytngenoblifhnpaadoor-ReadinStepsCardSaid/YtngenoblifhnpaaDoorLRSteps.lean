/- ReadinSteps: which accesses are valid, how one begins, what an event makes of it, which are not refused, what it needs, and which frames it has, or which errors. Written by gen_rsteps.py. -/
import Derived.Test.YtngenoblifhnpaaDoorLRKnown
import Derived.Test.YtngenoblifhnpaaDoorRiR5
import Derived.Test.YtngenoblifhnpaaDoorFree2
namespace Go.Proofs.YtngenoblifhnpaaDoor
open Go.RowKit Go.Maps
open Go.ChangeShapes Go.WideShapes Go.ChangeAt Go.Joins

theorem thereF_one (x : Int) : (thereF [x]).length ≤ 1 := thereF_len [x]
theorem stp_len (r : RI) (e n : Int) : (stpR r e n).2.1.length ≤ 1 := by
  unfold stpR
  repeat' (first | (simp; done) | split)
  unfold aftR
  repeat' (first | (simp; done) | exact thereF_one _ | split)
theorem eve_len (r : RI) : (eveR r).1.length ≤ 6 := by
  unfold eveR
  split
  · exact evs_len r
  · simp
theorem fram_len (r : RI) : (framR r).1.length ≤ 2 := by
  unfold framR
  split
  · split
    · exact thereF_len _
    · exact thereF_len _
  · simp

set_option maxRecDepth 100000 in
set_option maxHeartbeats 16000000 in
theorem readinSteps_walk (s f g event frame : Int) (h0 : (Lit.int .i64 s).wf = true) (h1 : (Lit.int .i64 f).wf = true) (h2 : (Lit.int .i64 g).wf = true) (h3 : (Lit.int .i64 event).wf = true) (h4 : (Lit.int .i64 frame).wf = true) (w : World) (hal : AL w) :
    Calls Tryd.prog 6 #[.agg #[.int .i64 s, .int .i64 f, .int .i64 g], .int .i64 event, .int .i64 frame] w fun e w' => e = .returned (.bool true) ∧ Below w.heap.size w w' := by
  clear h0 h1 h2 h3 h4
  have HAL := Lib.hid hal
  clear hal
  obtain ⟨⟨⟨b0, b1, b2⟩, zb⟩, hbg⟩ : ∃ R, begR frame = R := ⟨_, rfl⟩
  obtain ⟨⟨⟨t0, t1, t2⟩, fl, mp, zs⟩, hst⟩ : ∃ R, stpR (s, f, g) event frame = R := ⟨_, rfl⟩
  obtain ⟨⟨el, ez⟩, hev⟩ : ∃ R, eveR (s, f, g) = R := ⟨_, rfl⟩
  obtain ⟨⟨nn, nz⟩, hne⟩ : ∃ R, neeR (s, f, g) = R := ⟨_, rfl⟩
  obtain ⟨⟨rl, rz⟩, hfr⟩ : ∃ R, framR (s, f, g) = R := ⟨_, rfl⟩
  obtain ⟨cz, hch⟩ : ∃ z, chkR (s, f, g) = z := ⟨_, rfl⟩
  have l1 : fl.length ≤ 1 := by have := stp_len (s, f, g) event frame; rw [hst] at this; exact this
  have l2 : el.length ≤ 6 := by have := eve_len (s, f, g); rw [hev] at this; exact this
  have l3 : rl.length ≤ 2 := by have := fram_len (s, f, g); rw [hfr] at this; exact this
  have HBG := Lib.hid hbg; have HST := Lib.hid hst; have HEV := Lib.hid hev; have HNE := Lib.hid hne; have HFR := Lib.hid hfr; have HCH := Lib.hid hch
  clear hbg hst hev hne hfr hch
  have hq1 := fun W => eq_ri W (b0, b1, b2) (b0, b1, b2)
  have hq2 := fun W => eq_ri W (t0, t1, t2) (t0, t1, t2)
  rw [decide_eq_true rfl] at hq1 hq2
  simp only at hq1 hq2
  go_enter Tryd.func6, Tryd.ntmps6
  go_wp2_with fail
  refine (Begin_any frame _ HBG.out).mono ?_
  rintro e w1 ⟨rfl, hb1⟩
  have K0 : Hid (Blk w1 w.heap.size 23 #[.int .i64 s, .int .i64 f, .int .i64 g]) := Blk.below_ (Blk.new_ rfl rfl) hb1 (by simp)
  have HB1 : Hid (Below w.heap.size w w1) := box_below hb1
  clear hb1
  go_wp2_with fail
  refine (rBegin_any frame _ HBG.out).mono ?_
  rintro e w2 ⟨rfl, hb2⟩
  have HX2 : Hid (Below w1.heap.size w1 w2) := box_below hb2
  have K7 : Hid (Blk w2 w1.heap.size 23 #[.int .i64 b0, .int .i64 b1, .int .i64 b2]) := Blk.below_ (Blk.new_ rfl rfl) hb2 (by simp)
  have K0' : Hid (Blk w2 w.heap.size 23 #[.int .i64 s, .int .i64 f, .int .i64 g]) := K0.out.below_ HX2.out K0.out.lt
  have z1 := K0.out.lt
  have z2 := K7.out.lt
  clear hb2 K0
  go_wp2_with fail
  obtain ⟨V, hV⟩ : ∃ V, w2.alloc (.cells #[.int .i64 b0, .int .i64 b1, .int .i64 b2] 23) = V := ⟨_, rfl⟩
  have K9 : Hid (Blk V w2.heap.size 23 #[.int .i64 b0, .int .i64 b1, .int .i64 b2]) := by show Blk _ _ _ _; rw [← hV]; exact Blk.new_ rfl rfl
  have hVb : Below w2.heap.size w2 V := by rw [← hV]; exact (Below.refl _ _).alloc (Nat.le_refl _) _
  have K7' : Hid (Blk V w1.heap.size 23 #[.int .i64 b0, .int .i64 b1, .int .i64 b2]) := K7.out.below_ hVb K7.out.lt
  have K0 : Hid (Blk V w.heap.size 23 #[.int .i64 s, .int .i64 f, .int .i64 g]) := K0'.out.below_ hVb K0'.out.lt
  have HB : Hid (Below w.heap.size w V) := (HB1.out.trans (HX2.out.mono HB1.out.size)).trans (hVb.mono (Nat.le_trans HB1.out.size HX2.out.size))
  rw [hV]
  clear hV hVb K0' K7 HX2 HB1
  refine wp_region_chain2 [1, 1, 0, 0, 0, 0, 0, 0, 0, 1, 1, 1, 1, 0, 0] [[], [], [], [], [], [], [], [], [], [], [], [], [], [], []] [.kn ?fan0, .kn ?fan1, .is (.bool false), .is ?fan3, .is ?fan4, .is ?fan5, .is ?fan6, .is ?fan7, .is ?fan8, .kn ?fan9, .kn (.int .i64 cz), .kn ?fan11, .kn (.int .i64 cz), .is ?fan13, .is ?fan14] (by rfl) (by rfl) (by kernel_rfl) (by kernel_rfl) (by kernel_rfl) (by kernel_rfl) (by kernel_rfl) (by kernel_rfl) (lts_kn (lts_kn (lts_is (lts_is (lts_is (lts_is (lts_is (lts_is (lts_is (lts_kn (lts_kn (lts_kn (lts_kn (lts_is (lts_is lts_nil))))))))))))))) (fun W0 hb0 hz0 => ?_)
  rotate_left 12
  rw [show lateIdx [1, 1, 0, 0, 0, 0, 0, 0, 0, 1, 1, 1, 1, 0, 0] = [] from by rfl]
  have kqa := K7'.out.below_ hb0 K7'.out.lt
  have qa0 : W0.cell? ⟨w1.heap.size, 0, none⟩ = some (.int .i64 b0) := (kqa.cell_ 0).trans (by simp)
  have qa1 : W0.cell? ⟨w1.heap.size, 1, none⟩ = some (.int .i64 b1) := (kqa.cell_ 1).trans (by simp)
  have qa2 : W0.cell? ⟨w1.heap.size, 2, none⟩ = some (.int .i64 b2) := (kqa.cell_ 2).trans (by simp)
  have zqa := kqa.lt
  have kqb := K9.out.below_ hb0 K9.out.lt
  have qb0 : W0.cell? ⟨w2.heap.size, 0, none⟩ = some (.int .i64 b0) := (kqb.cell_ 0).trans (by simp)
  have qb1 : W0.cell? ⟨w2.heap.size, 1, none⟩ = some (.int .i64 b1) := (kqb.cell_ 1).trans (by simp)
  have qb2 : W0.cell? ⟨w2.heap.size, 2, none⟩ = some (.int .i64 b2) := (kqb.cell_ 2).trans (by simp)
  have zqb := kqb.lt
  have kqr := K0.out.below_ hb0 K0.out.lt
  have qr0 : W0.cell? ⟨w.heap.size, 0, none⟩ = some (.int .i64 s) := (kqr.cell_ 0).trans (by simp)
  have qr1 : W0.cell? ⟨w.heap.size, 1, none⟩ = some (.int .i64 f) := (kqr.cell_ 1).trans (by simp)
  have qr2 : W0.cell? ⟨w.heap.size, 2, none⟩ = some (.int .i64 g) := (kqr.cell_ 2).trans (by simp)
  have zqr := kqr.lt
  refine chn_kn (stp_take (by rfl) ?yan0) ?ran0
  case yan0 =>
    intro w hbw hd
    have r0 := cell_keep hbw qa0 zqa
    have r1 := cell_keep hbw qa1 zqa
    have r2 := cell_keep hbw qa2 zqa
    clear hd
    go_simp
    first | done | with_reducible rfl
  (try simp only [Act.put, List.setIfInBounds_toArray, List.set_cons_zero, List.set_cons_succ, List.nil_append, List.cons_append, Nat.reduceAdd])
  refine chn_kn (stp_take (by rfl) ?yan1) ?ran1
  case yan1 =>
    intro w hbw hd
    have r0 := cell_keep hbw qb0 zqb
    have r1 := cell_keep hbw qb1 zqb
    have r2 := cell_keep hbw qb2 zqb
    clear hd
    go_simp
    first | done | with_reducible rfl
  (try simp only [Act.put, List.setIfInBounds_toArray, List.set_cons_zero, List.set_cons_succ, List.nil_append, List.cons_append, Nat.reduceAdd])
  refine chn_is (stp_pure (by rfl) ?yan2) ?ran2
  case yan2 =>
    intro w
    go_simp
    first | done | rfl
  (try simp only [Act.put, List.setIfInBounds_toArray, List.set_cons_zero, List.set_cons_succ, List.nil_append, List.cons_append, Nat.reduceAdd])
  refine chn_is (stp_pure (by rfl) ?yan3) ?ran3
  case yan3 =>
    intro w
    go_simp
    first | done | with_reducible rfl
  (try simp only [Act.put, List.setIfInBounds_toArray, List.set_cons_zero, List.set_cons_succ, List.nil_append, List.cons_append, Nat.reduceAdd])
  refine chn_is (stp_pure (by rfl) ?yan4) ?ran4
  case yan4 =>
    intro w
    go_simp
    first | done | with_reducible rfl
  (try simp only [Act.put, List.setIfInBounds_toArray, List.set_cons_zero, List.set_cons_succ, List.nil_append, List.cons_append, Nat.reduceAdd])
  refine chn_is (stp_pure (by rfl) ?yan5) ?ran5
  case yan5 =>
    intro w
    go_simp
    first | done | with_reducible rfl
  (try simp only [Act.put, List.setIfInBounds_toArray, List.set_cons_zero, List.set_cons_succ, List.nil_append, List.cons_append, Nat.reduceAdd])
  refine chn_is (stp_pure (by rfl) ?yan6) ?ran6
  case yan6 =>
    intro w
    go_simp
    first | done | with_reducible rfl
  (try simp only [Act.put, List.setIfInBounds_toArray, List.set_cons_zero, List.set_cons_succ, List.nil_append, List.cons_append, Nat.reduceAdd])
  refine chn_is (stp_pure (by rfl) ?yan7) ?ran7
  case yan7 =>
    intro w
    go_simp
    first | done | with_reducible rfl
  (try simp only [Act.put, List.setIfInBounds_toArray, List.set_cons_zero, List.set_cons_succ, List.nil_append, List.cons_append, Nat.reduceAdd])
  refine chn_is (stp_pure (by rfl) ?yan8) ?ran8
  case yan8 =>
    intro w
    go_simp
    first | done | with_reducible rfl
  (try simp only [Act.put, List.setIfInBounds_toArray, List.set_cons_zero, List.set_cons_succ, List.nil_append, List.cons_append, Nat.reduceAdd])
  refine chn_kn (stp_take (by rfl) ?yan9) ?ran9
  case yan9 =>
    intro w hbw hd
    have r0 := cell_keep hbw qr0 zqr
    have r1 := cell_keep hbw qr1 zqr
    have r2 := cell_keep hbw qr2 zqr
    clear hd
    go_simp
    first | done | with_reducible rfl
  (try simp only [Act.put, List.setIfInBounds_toArray, List.set_cons_zero, List.set_cons_succ, List.nil_append, List.cons_append, Nat.reduceAdd])
  refine chn_kn ?san10 ?ran10
  case san10 =>
    intro w hbw hd K Q' hK
    clear hd
    go_simp
    refine (Check_any s f g _ HCH.out).mono ?_
    rintro e y ⟨rfl, hy⟩
    go_wp2_with fail
    refine hK.out (.int .i64 cz) _ _ ?_ ?_ rfl
    · (simp only [Act.put, List.setIfInBounds_toArray, List.set_cons_zero, List.set_cons_succ, List.nil_append, List.cons_append, Nat.reduceAdd])
    · exact (by repeat' (first | with_reducible exact Below.refl _ _ | with_reducible assumption | with_reducible apply Below.drew | with_reducible apply below_drewN | with_reducible apply Below.alloc | with_reducible apply Below.setCell | (with_reducible refine Below.trans ?_ (Below.mono (by assumption) ?_)) | (simp; done) | (simp; omega) | omega | with_reducible apply le_size_alloc | with_reducible apply le_size_drewN | with_reducible apply le_size_drew | with_reducible apply le_size_setCell | with_reducible refine Nat.le_trans ?_ (Below.size (by assumption))))
  (try simp only [Act.put, List.setIfInBounds_toArray, List.set_cons_zero, List.set_cons_succ, List.nil_append, List.cons_append, Nat.reduceAdd])
  refine chn_kn (stp_take (by rfl) ?yan11) ?ran11
  case yan11 =>
    intro w hbw hd
    have r0 := cell_keep hbw qr0 zqr
    have r1 := cell_keep hbw qr1 zqr
    have r2 := cell_keep hbw qr2 zqr
    clear hd
    go_simp
    first | done | with_reducible rfl
  (try simp only [Act.put, List.setIfInBounds_toArray, List.set_cons_zero, List.set_cons_succ, List.nil_append, List.cons_append, Nat.reduceAdd])
  refine chn_kn ?san12 ?ran12
  case san12 =>
    intro w hbw hd K Q' hK
    clear hd
    go_simp
    refine (rCheck_any s f g _ HCH.out).mono ?_
    rintro e y ⟨rfl, hy⟩
    go_wp2_with fail
    refine hK.out (.int .i64 cz) _ _ ?_ ?_ rfl
    · (simp only [Act.put, List.setIfInBounds_toArray, List.set_cons_zero, List.set_cons_succ, List.nil_append, List.cons_append, Nat.reduceAdd])
    · exact (by repeat' (first | with_reducible exact Below.refl _ _ | with_reducible assumption | with_reducible apply Below.drew | with_reducible apply below_drewN | with_reducible apply Below.alloc | with_reducible apply Below.setCell | (with_reducible refine Below.trans ?_ (Below.mono (by assumption) ?_)) | (simp; done) | (simp; omega) | omega | with_reducible apply le_size_alloc | with_reducible apply le_size_drewN | with_reducible apply le_size_drew | with_reducible apply le_size_setCell | with_reducible refine Nat.le_trans ?_ (Below.size (by assumption))))
  (try simp only [Act.put, List.setIfInBounds_toArray, List.set_cons_zero, List.set_cons_succ, List.nil_append, List.cons_append, Nat.reduceAdd])
  refine chn_is (stp_pure (by rfl) ?yan13) ?ran13
  case yan13 =>
    intro w
    go_simp
    first | done | with_reducible rfl
  (try simp only [Act.put, List.setIfInBounds_toArray, List.set_cons_zero, List.set_cons_succ, List.nil_append, List.cons_append, Nat.reduceAdd])
  refine chn_is (stp_pure (by rfl) ?yan14) ?ran14
  case yan14 =>
    intro w
    go_simp
    first | done | with_reducible rfl
  (try simp only [Act.put, List.setIfInBounds_toArray, List.set_cons_zero, List.set_cons_succ, List.nil_append, List.cons_append, Nat.reduceAdd])
  refine chn_end (fun wz lo hi hbz hd hR => ?_)
  have B3 := hb0.trans (hbz.mono hb0.size)
  have HK7 := Lib.hid (K7'.out.below_ B3 K7'.out.lt)
  have HK9 := Lib.hid (K9.out.below_ B3 K9.out.lt)
  have HK0 := Lib.hid (K0.out.below_ B3 K0.out.lt)
  have HB3 : Hid (Below w.heap.size w wz) := HB.out.trans (B3.mono HB.out.size)
  clear hd hR hb0 hbz hz0 qa0 qa1 qa2 zqa kqa qb0 qb1 qb2 zqb kqb qr0 qr1 qr2 zqr kqr B3 K7' K9 K0 HB
  refine late_none ?_
  obtain ⟨x3, rfl⟩ : ∃ x3 : World, x3 = wz := ⟨_, rfl⟩
  have z3 := HK9.out.lt
  have n79 : w1.heap.size ≠ w2.heap.size := by omega
  have n07 : w.heap.size ≠ w1.heap.size := by omega
  have n09 : w.heap.size ≠ w2.heap.size := by omega
  have q0 : x3.cell? ⟨w.heap.size, 0, none⟩ = some (.int .i64 s) := (HK0.out.cell_ 0).trans (by simp)
  have q1 : x3.cell? ⟨w.heap.size, 1, none⟩ = some (.int .i64 f) := (HK0.out.cell_ 1).trans (by simp)
  have q2 : x3.cell? ⟨w.heap.size, 2, none⟩ = some (.int .i64 g) := (HK0.out.cell_ 2).trans (by simp)
  go_wp2_with fail
  refine (Step_any s f g event frame _ (HAL.out.ext HB3.out)).mono ?_
  unfold StpPost
  rw [HST.out]
  rintro e x4 ⟨A4, c4, rfl, hi4, hx4⟩
  clear q0 q1 q2
  have HI4 := Lib.hid hi4
  have KA := Lib.hid (HK7.out.below_ hx4 HK7.out.lt)
  have KB := Lib.hid (HK9.out.below_ hx4 HK9.out.lt)
  have KR := Lib.hid (HK0.out.below_ hx4 HK0.out.lt)
  have HB4 := Lib.hid (HB3.out.trans (hx4.mono HB3.out.size))
  clear hi4 hx4 HK7 HK9 HK0
  have p0 : x4.cell? ⟨w1.heap.size, 0, none⟩ = some (.int .i64 b0) := (KA.out.cell_ 0).trans (by simp)
  have p1 : x4.cell? ⟨w1.heap.size, 1, none⟩ = some (.int .i64 b1) := (KA.out.cell_ 1).trans (by simp)
  have p2 : x4.cell? ⟨w1.heap.size, 2, none⟩ = some (.int .i64 b2) := (KA.out.cell_ 2).trans (by simp)
  have pf0 := KA.out.frozen_ 0
  have pf1 := KA.out.frozen_ 1
  have pf2 := KA.out.frozen_ 2
  have q0 : x4.cell? ⟨w.heap.size, 0, none⟩ = some (.int .i64 s) := (KR.out.cell_ 0).trans (by simp)
  have q1 : x4.cell? ⟨w.heap.size, 1, none⟩ = some (.int .i64 f) := (KR.out.cell_ 1).trans (by simp)
  have q2 : x4.cell? ⟨w.heap.size, 2, none⟩ = some (.int .i64 g) := (KR.out.cell_ 2).trans (by simp)
  go_wp2_with fail
  obtain ⟨U, hU⟩ : ∃ U, ((x4.setCell ⟨w1.heap.size, 0, none⟩ (.int .i64 t0)).setCell ⟨w1.heap.size, 1, none⟩ (.int .i64 t1)).setCell ⟨w1.heap.size, 2, none⟩ (.int .i64 t2) = U := ⟨_, rfl⟩
  have K7 : Hid (Blk U w1.heap.size 23 #[.int .i64 t0, .int .i64 t1, .int .i64 t2]) := by show Blk _ _ _ _; rw [← hU]; simpa using ((KA.out.set_ 0 (.int .i64 t0)).set_ 1 (.int .i64 t1)).set_ 2 (.int .i64 t2)
  have K9 : Hid (Blk U w2.heap.size 23 #[.int .i64 b0, .int .i64 b1, .int .i64 b2]) := by show Blk _ _ _ _; rw [← hU]; exact ((KB.out.far_ (p := ⟨w1.heap.size, 0, none⟩) (Ne.symm n79) _).far_ (p := ⟨w1.heap.size, 1, none⟩) (Ne.symm n79) _).far_ (p := ⟨w1.heap.size, 2, none⟩) (Ne.symm n79) _
  have K0 : Hid (Blk U w.heap.size 23 #[.int .i64 s, .int .i64 f, .int .i64 g]) := by show Blk _ _ _ _; rw [← hU]; exact ((KR.out.far_ (p := ⟨w1.heap.size, 0, none⟩) n07 _).far_ (p := ⟨w1.heap.size, 1, none⟩) n07 _).far_ (p := ⟨w1.heap.size, 2, none⟩) n07 _
  have HIU : Hid (IWn U x3.heap.size A4 c4 fl) := by show IWn _ _ _ _ _; rw [← hU]; exact ((HI4.out.far 0 _ (by omega)).far 1 _ (by omega)).far 2 _ (by omega)
  have HBU : Hid (Below w.heap.size w U) := by show Below _ _ _; rw [← hU]; exact ((HB4.out.setCell (p := ⟨w1.heap.size, 0, none⟩) (show w.heap.size ≤ w1.heap.size by omega) _).setCell (p := ⟨w1.heap.size, 1, none⟩) (show w.heap.size ≤ w1.heap.size by omega) _).setCell (p := ⟨w1.heap.size, 2, none⟩) (show w.heap.size ≤ w1.heap.size by omega) _
  rw [hU]
  clear hU KA KB KR HI4 HB4 p0 p1 p2 pf0 pf1 pf2 q0 q1 q2
  refine (RStep_any s f g event frame _).mono ?_
  unfold StpPost
  rw [HST.out]
  rintro e x5 ⟨A5, c5, rfl, hi5, hx5⟩
  have HI5 := Lib.hid hi5
  have HI4 := Lib.hid (HIU.out.ext hx5)
  have KA := Lib.hid (K7.out.below_ hx5 K7.out.lt)
  have KB := Lib.hid (K9.out.below_ hx5 K9.out.lt)
  have KR := Lib.hid (K0.out.below_ hx5 K0.out.lt)
  have HB5 := Lib.hid (HBU.out.trans (hx5.mono HBU.out.size))
  have zU := K9.out.lt
  clear hi5 hx5 K7 K9 K0 HIU HBU
  have p0 : x5.cell? ⟨w1.heap.size, 0, none⟩ = some (.int .i64 t0) := (KA.out.cell_ 0).trans (by simp)
  have p1 : x5.cell? ⟨w1.heap.size, 1, none⟩ = some (.int .i64 t1) := (KA.out.cell_ 1).trans (by simp)
  have p2 : x5.cell? ⟨w1.heap.size, 2, none⟩ = some (.int .i64 t2) := (KA.out.cell_ 2).trans (by simp)
  have m0 : x5.cell? ⟨w2.heap.size, 0, none⟩ = some (.int .i64 b0) := (KB.out.cell_ 0).trans (by simp)
  have m1 : x5.cell? ⟨w2.heap.size, 1, none⟩ = some (.int .i64 b1) := (KB.out.cell_ 1).trans (by simp)
  have m2 : x5.cell? ⟨w2.heap.size, 2, none⟩ = some (.int .i64 b2) := (KB.out.cell_ 2).trans (by simp)
  have mf0 := KB.out.frozen_ 0
  have mf1 := KB.out.frozen_ 1
  have mf2 := KB.out.frozen_ 2
  have q0 : x5.cell? ⟨w.heap.size, 0, none⟩ = some (.int .i64 s) := (KR.out.cell_ 0).trans (by simp)
  have q1 : x5.cell? ⟨w.heap.size, 1, none⟩ = some (.int .i64 f) := (KR.out.cell_ 1).trans (by simp)
  have q2 : x5.cell? ⟨w.heap.size, 2, none⟩ = some (.int .i64 g) := (KR.out.cell_ 2).trans (by simp)
  go_wp2_with fail
  obtain ⟨V, hV⟩ : ∃ V, ((x5.setCell ⟨w2.heap.size, 0, none⟩ (.int .i64 t0)).setCell ⟨w2.heap.size, 1, none⟩ (.int .i64 t1)).setCell ⟨w2.heap.size, 2, none⟩ (.int .i64 t2) = V := ⟨_, rfl⟩
  have K0 : Hid (Blk V w.heap.size 23 #[.int .i64 s, .int .i64 f, .int .i64 g]) := by show Blk _ _ _ _; rw [← hV]; exact ((KR.out.far_ (p := ⟨w2.heap.size, 0, none⟩) n09 _).far_ (p := ⟨w2.heap.size, 1, none⟩) n09 _).far_ (p := ⟨w2.heap.size, 2, none⟩) n09 _
  have HJ4 : Hid (IWn V x3.heap.size A4 c4 fl) := by show IWn _ _ _ _ _; rw [← hV]; exact ((HI4.out.far 0 _ z3).far 1 _ z3).far 2 _ z3
  have HJ5 : Hid (IWn V U.heap.size A5 c5 fl) := by show IWn _ _ _ _ _; rw [← hV]; exact ((HI5.out.far 0 _ zU).far 1 _ zU).far 2 _ zU
  have HBV : Hid (Below w.heap.size w V) := by show Below _ _ _; rw [← hV]; exact ((HB5.out.setCell (p := ⟨w2.heap.size, 0, none⟩) (show w.heap.size ≤ w2.heap.size by omega) _).setCell (p := ⟨w2.heap.size, 1, none⟩) (show w.heap.size ≤ w2.heap.size by omega) _).setCell (p := ⟨w2.heap.size, 2, none⟩) (show w.heap.size ≤ w2.heap.size by omega) _
  rw [hV]
  clear hV KA KB KR HI4 HI5 HB5 p0 p1 p2 m0 m1 m2 mf0 mf1 mf2 q0 q1 q2
  refine (SameInts_any A4 A5 c4 c5 fl fl _ HJ4.out.1.1 HJ5.out.1.1 (by omega) (by omega)).mono ?_
  rw [decide_eq_true rfl]
  rintro e x6 ⟨rfl, hx⟩
  have KRx6 := Lib.hid (K0.out.below_ hx K0.out.lt)
  have HBx6 := Lib.hid (HBV.out.trans (hx.mono HBV.out.size))
  clear hx K0 HBV 
  clear HJ4 HJ5
  have q0 : x6.cell? ⟨w.heap.size, 0, none⟩ = some (.int .i64 s) := (KRx6.out.cell_ 0).trans (by simp)
  have q1 : x6.cell? ⟨w.heap.size, 1, none⟩ = some (.int .i64 f) := (KRx6.out.cell_ 1).trans (by simp)
  have q2 : x6.cell? ⟨w.heap.size, 2, none⟩ = some (.int .i64 g) := (KRx6.out.cell_ 2).trans (by simp)
  go_wp2_with fail
  refine (Events_any s f g _ (HAL.out.ext HBx6.out)).mono ?_
  unfold LsPost
  rw [HEV.out]
  rintro e x7 ⟨A7, c7, rfl, hi7, hx⟩
  have HI7 := Lib.hid hi7.1
  clear hi7
  clear q0 q1 q2
  have KRx7 := Lib.hid (KRx6.out.below_ hx KRx6.out.lt)
  have HBx7 := Lib.hid (HBx6.out.trans (hx.mono HBx6.out.size))
  clear hx KRx6 HBx6 
  have q0 : x7.cell? ⟨w.heap.size, 0, none⟩ = some (.int .i64 s) := (KRx7.out.cell_ 0).trans (by simp)
  have q1 : x7.cell? ⟨w.heap.size, 1, none⟩ = some (.int .i64 f) := (KRx7.out.cell_ 1).trans (by simp)
  have q2 : x7.cell? ⟨w.heap.size, 2, none⟩ = some (.int .i64 g) := (KRx7.out.cell_ 2).trans (by simp)
  go_wp2_with fail
  refine (REvents_any s f g _).mono ?_
  unfold LsPost
  rw [HEV.out]
  rintro e x8 ⟨A8, c8, rfl, hi8, hx⟩
  have HI8 := Lib.hid hi8.1
  clear hi8
  clear q0 q1 q2
  have KRx8 := Lib.hid (KRx7.out.below_ hx KRx7.out.lt)
  have HBx8 := Lib.hid (HBx7.out.trans (hx.mono HBx7.out.size))
  have HI7_x8 := Lib.hid (HI7.out.ext hx)
  clear hx KRx7 HBx7 HI7
  go_wp2_with fail
  refine (SameInts_any A7 A8 c7 c8 el el _ HI7_x8.out HI8.out (by omega) (by omega)).mono ?_
  rw [decide_eq_true rfl]
  rintro e x9 ⟨rfl, hx⟩
  clear HI7_x8 HI8
  have KRx9 := Lib.hid (KRx8.out.below_ hx KRx8.out.lt)
  have HBx9 := Lib.hid (HBx8.out.trans (hx.mono HBx8.out.size))
  clear hx KRx8 HBx8 
  have q0 : x9.cell? ⟨w.heap.size, 0, none⟩ = some (.int .i64 s) := (KRx9.out.cell_ 0).trans (by simp)
  have q1 : x9.cell? ⟨w.heap.size, 1, none⟩ = some (.int .i64 f) := (KRx9.out.cell_ 1).trans (by simp)
  have q2 : x9.cell? ⟨w.heap.size, 2, none⟩ = some (.int .i64 g) := (KRx9.out.cell_ 2).trans (by simp)
  go_wp2_with fail
  refine (Needs_any s f g _).mono ?_
  rw [HNE.out]
  rintro e x10 ⟨rfl, hx⟩
  clear q0 q1 q2
  have KRx10 := Lib.hid (KRx9.out.below_ hx KRx9.out.lt)
  have HBx10 := Lib.hid (HBx9.out.trans (hx.mono HBx9.out.size))
  clear hx KRx9 HBx9 
  have q0 : x10.cell? ⟨w.heap.size, 0, none⟩ = some (.int .i64 s) := (KRx10.out.cell_ 0).trans (by simp)
  have q1 : x10.cell? ⟨w.heap.size, 1, none⟩ = some (.int .i64 f) := (KRx10.out.cell_ 1).trans (by simp)
  have q2 : x10.cell? ⟨w.heap.size, 2, none⟩ = some (.int .i64 g) := (KRx10.out.cell_ 2).trans (by simp)
  go_wp2_with fail
  refine (RNeeds_any s f g _).mono ?_
  rw [HNE.out]
  rintro e x11 ⟨rfl, hx⟩
  clear q0 q1 q2
  have KRx11 := Lib.hid (KRx10.out.below_ hx KRx10.out.lt)
  have HBx11 := Lib.hid (HBx10.out.trans (hx.mono HBx10.out.size))
  clear hx KRx10 HBx10 
  have q0 : x11.cell? ⟨w.heap.size, 0, none⟩ = some (.int .i64 s) := (KRx11.out.cell_ 0).trans (by simp)
  have q1 : x11.cell? ⟨w.heap.size, 1, none⟩ = some (.int .i64 f) := (KRx11.out.cell_ 1).trans (by simp)
  have q2 : x11.cell? ⟨w.heap.size, 2, none⟩ = some (.int .i64 g) := (KRx11.out.cell_ 2).trans (by simp)
  go_wp2_with fail
  refine (Frames_any s f g _).mono ?_
  unfold LsPost
  rw [HFR.out]
  rintro e x12 ⟨A9, c9, rfl, hi9, hx⟩
  have HI9 := Lib.hid hi9.1
  clear hi9
  clear q0 q1 q2
  have KRx12 := Lib.hid (KRx11.out.below_ hx KRx11.out.lt)
  have HBx12 := Lib.hid (HBx11.out.trans (hx.mono HBx11.out.size))
  clear hx KRx11 HBx11 
  have q0 : x12.cell? ⟨w.heap.size, 0, none⟩ = some (.int .i64 s) := (KRx12.out.cell_ 0).trans (by simp)
  have q1 : x12.cell? ⟨w.heap.size, 1, none⟩ = some (.int .i64 f) := (KRx12.out.cell_ 1).trans (by simp)
  have q2 : x12.cell? ⟨w.heap.size, 2, none⟩ = some (.int .i64 g) := (KRx12.out.cell_ 2).trans (by simp)
  go_wp2_with fail
  refine (RFrames_any s f g _).mono ?_
  unfold LsPost
  rw [HFR.out]
  rintro e x13 ⟨A10, c10, rfl, hi10, hx⟩
  have HI10 := Lib.hid hi10.1
  clear hi10
  clear q0 q1 q2
  have KRx13 := Lib.hid (KRx12.out.below_ hx KRx12.out.lt)
  have HBx13 := Lib.hid (HBx12.out.trans (hx.mono HBx12.out.size))
  have HI9_x13 := Lib.hid (HI9.out.ext hx)
  clear hx KRx12 HBx12 HI9
  go_wp2_with fail
  refine (SameInts_any A9 A10 c9 c10 rl rl _ HI9_x13.out HI10.out (by omega) (by omega)).mono ?_
  rw [decide_eq_true rfl]
  rintro e x14 ⟨rfl, hx⟩
  clear HI9_x13 HI10
  have KRx14 := Lib.hid (KRx13.out.below_ hx KRx13.out.lt)
  have HBx14 := Lib.hid (HBx13.out.trans (hx.mono HBx13.out.size))
  clear hx KRx13 HBx13 
  go_wp2_with fail
  refine (awake_any _ (HAL.out.ext HBx14.out)).mono ?_
  rintro e x15 ⟨rfl, hx⟩
  have KRx15 := Lib.hid (KRx14.out.below_ hx KRx14.out.lt)
  have HBx15 := Lib.hid (HBx14.out.trans (hx.mono HBx14.out.size))
  clear hx KRx14 HBx14 
  go_wp2_with fail
  go_ret
  exact ⟨rfl, HBx15.out⟩

set_option maxRecDepth 100000 in
theorem readinSteps_lifted (os : Os) (started : os.Started) (H : Type) (enc : TypeId × Value → H) :
    ReturnsInHanded {} Tryd.checked os 6 .any (fun w args => (Rows.readinStepsSpec.pre enc Tryd.prog Tryd.f6 [] false w args ∧ laidMetH Tryd.prog laidV w) ∧ sizedMet enc Tryd.prog Tryd.f6 (OpenSpec.ofChange Rows.readinStepsSpec) false w args) (Rows.readinStepsSpec.post enc Tryd.prog Tryd.f6 false true false false) := by
  refine returnsInHanded_of_change_and (C := Tryd.checked) (X := fun w _ => laidMetH Tryd.prog laidV w) (fun _ _ _ hh h => h.of_heap hh) own started (by kernel_rfl) Tryd.func6
    (ChangeSpec.witness_shaped (enc := enc) (C := Tryd.checked) (os := os) (X := fun w _ => laidMetH Tryd.prog laidV w) false (World.doorLaid Tryd.prog 400 os) #[.agg #[.int .i64 0, .int .i64 0, .int .i64 0], .int .i64 0, .int .i64 0] 8 rfl (World.shaped_of_RefB (by kernel_rfl) (by kernel_rfl)) (by kernel_rfl) (by kernel_rfl) (by kernel_rfl) (door_met os _)) ?_
  intro W base args ds gs before hval0 hW hcnd _ hL _
  have hval : ∀ (j : Nat) t v, Tryd.f6.params[j]? = some t → args[j]? = some v → Value.okWide Tryd.prog W .any base t v := hval0
  have hW' := hW
  obtain ⟨p, q, hA0, hV, rfl, hfz, hnd⟩ := hW
  have hA : DataW.TrodAll enc Tryd.prog W 0 (fun _ => true) true Tryd.f6.params.toList args.toList ds p := hA0
  rw [Tryd.params6] at hA hval
  obtain ⟨v0, vs0, d0, ds0, p0, q0, hargs, rfl, rfl, h0, r0⟩ := trodAll_cons hA
  obtain ⟨v1, vs1, d1, ds1, p1, q1, rfl, rfl, rfl, h1, r1⟩ := trodAll_cons r0
  obtain ⟨v2, vs2, d2, ds2, p2, q2, rfl, rfl, rfl, h2, r2⟩ := trodAll_cons r1
  obtain ⟨rfl, rfl, rfl⟩ := trodAll_nil r2
  obtain rfl : args = #[v0, v1, v2] := by cases args; simp_all
  obtain ⟨rfl, rfl⟩ := trodVars_none hV
  obtain ⟨c00, c01, c02, y00, y01, y02, m0, rfl, rfl, rfl, hy00, hy01, hy02⟩ := open_agg3 Tryd.underlying23 (by kernel_rfl) (by kernel_rfl) (hval 0 23 v0 rfl rfl) h0
  obtain ⟨a00, e00, f00, w00⟩ := DataW.trod_int Tryd.underlying3 hy00
  simp at e00; subst e00
  obtain ⟨a01, e01, f01, w01⟩ := DataW.trod_int Tryd.underlying3 hy01
  simp at e01; subst e01
  obtain ⟨a02, e02, f02, w02⟩ := DataW.trod_int Tryd.underlying3 hy02
  simp at e02; subst e02
  obtain ⟨a1, rfl, rfl, rfl, w1⟩ := open_int Tryd.underlying3 (hval 1 3 v1 rfl rfl) h1
  obtain ⟨a2, rfl, rfl, rfl, w2⟩ := open_int Tryd.underlying3 (hval 2 3 v2 rfl rfl) h2
  clear hA0 hval0
  refine (readinSteps_walk a00 a01 a02 a1 a2 w00 w01 w02 w1 w2 W (of_laid hL)).mono fun e W' ⟨he, hb⟩ => ⟨_, he, ?_⟩
  exact law_post laidOut (s := Rows.readinStepsSpec) (B := 4) rfl rfl Tryd.underlying4 (by decide +kernel) hW' rfl hb

theorem readinSteps_holds : Rows.ReadinStepsSaid :=
  OpenClaim.holds_of_wide 6 Tryd.f6 rfl rfl rfl rfl rfl rfl rfl ⟨rfl, rfl, rfl, rfl, rfl⟩ rfl rfl rfl rfl rfl (by kernel_rfl) Tryd.func6 (by kernel_rfl)
    (of_decide_eq_true (by kernel_rfl)) (by unfold Func.isWrapper; first | (rw [if_pos (by decide +kernel)]; kernel_rfl) | (rw [if_neg (by decide +kernel)]; exact ⟨rfl, rfl⟩))
    (fun os started H enc _ => readinSteps_lifted os started H enc)

theorem readinSteps_card : Rows.ReadinStepsCardSaid :=
  Claim7.holds_tied_plain_at .later [] [.data] true Rows.readinStepsCard.stood.harness false
    readinSteps_holds (fun _ h => by cases h) (by kernel_rfl) (fun _ h => by cases h) readinSteps_row_tie rfl ⟨rfl, rfl⟩ (by kernel_rfl) rfl
    (fun f fn hf hfn => by
      obtain rfl : f = 6 := Option.some.inj ((show Tryd.prog.funcNamed "headgate/headgatelaw21.ReadinSteps" = some 6 by kernel_rfl).symm.trans hf) |>.symm
      obtain rfl : fn = Tryd.f6 := (Option.some.inj (Tryd.func6.symm.trans hfn)).symm
      exact ⟨by kernel_rfl, fun j t ht => by
        have hall : (Tryd.f6.params.toList.all fun u => !Tryd.prog.wantsStandIn u) = true := by kernel_rfl
        have hm : t ∈ Tryd.f6.params.toList := by simpa using Array.mem_of_getElem? ht
        exact (show Tryd.prog.wantsStandIn t = false by simpa using List.all_eq_true.1 hall t hm)⟩)
    (by kernel_rfl)

end Go.Proofs.YtngenoblifhnpaaDoor
