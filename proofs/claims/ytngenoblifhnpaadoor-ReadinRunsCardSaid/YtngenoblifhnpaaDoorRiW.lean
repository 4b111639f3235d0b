/- readin.Run for whatever access, and the reference's Run. Written by gen_riw.py. -/
import Derived.Test.YtngenoblifhnpaaDoorRiV
namespace Go.Proofs.YtngenoblifhnpaaDoor
open Go.RowKit Go.Maps

theorem Run_any (s f g : Int) (A : Option Addr) (c : Nat) (l : List (Int × Int)) (w : World) (hs : SR chgE w A l) (ll : l.length ≤ 20) (hal : AL w) :
    Calls Tryd.prog 20 #[.agg #[.int .i64 s, .int .i64 f, .int .i64 g], .slice A l.length c] w (RunPost (runR (s, f, g) l) w) := by
  by_cases h0 : chkR (s, f, g) = 0
  · exact callsIn_wide.1 (Run_in 6 (Nat.le_refl _) s f g A c l w hs ll hal h0)
  · exact Run_bad s f g A c l.length l w h0

/-- An access, frames, a frame and an error. -/
def StpK (R : RI × List Int × Int × Int) (v : Value) (lo hi : Nat) (w : World) : Prop :=
  ∃ A c, v = .tuple #[.agg #[.int .i64 R.1.1, .int .i64 R.1.2.1, .int .i64 R.1.2.2], .slice A R.2.1.length c, .int .i64 R.2.2.1, .int .i64 R.2.2.2] ∧ IWn w lo A c R.2.1
theorem StpK.lasts (R : RI × List Int × Int × Int) : (Fk.has (StpK R)).lasts := fun _ _ _ _ _ ⟨A, c, e, h⟩ hb => ⟨A, c, e, h.ext hb⟩

set_option maxRecDepth 100000 in
set_option maxHeartbeats 4000000 in
theorem RRun_bad (s f g : Int) (A : Option Addr) (c m : Nat) (l : List (Int × Int)) (w : World) (h0 : chkR (s, f, g) ≠ 0) :
    Calls Tryd.prog 21 #[.agg #[.int .i64 s, .int .i64 f, .int .i64 g], .slice A m c] w (RunPost (runR (s, f, g) l) w) := by
  obtain ⟨z, hz⟩ : ∃ z, chkR (s, f, g) = z := ⟨_, rfl⟩
  have HE : Hid (runR (s, f, g) l = ((0, 0, 0), 0, z)) := by show _ = _; unfold runR; rw [if_neg h0, hz]
  have nz : (z != 0) = true := by rw [hz] at h0; simpa using h0
  have HC := Lib.hid hz
  clear hz h0
  go_enter Tryd.func21, Tryd.ntmps21
  go_wp2_with fail
  refine (rCheck_any s f g _ HC.out).mono ?_
  rintro er w1 ⟨rfl, hb1⟩
  have sz1 : w.heap.size + 2 ≤ w1.heap.size := by have := hb1.size; simp at this; omega
  have k4 : Blk w1 (w.heap.size + 1) 23 #[.int .i64 0, .int .i64 0, .int .i64 0] := Blk.below_ (Blk.new_ (by simp) rfl) hb1 (by first | (simp; done) | (simp; omega))
  have HB1 : Hid (Below w.heap.size w w1) := by show Below _ _ _; exact ((Below.refl _ w).alloc (Nat.le_refl _) _).alloc (by simp) _ |>.trans (hb1.mono (by simp; omega))
  have p0 : w1.cell? ⟨w.heap.size + 1, 0, none⟩ = some (.int .i64 0) := (k4.cell_ 0).trans (by simp)
  have p1 : w1.cell? ⟨w.heap.size + 1, 1, none⟩ = some (.int .i64 0) := (k4.cell_ 1).trans (by simp)
  have p2 : w1.cell? ⟨w.heap.size + 1, 2, none⟩ = some (.int .i64 0) := (k4.cell_ 2).trans (by simp)
  have g0 := k4.frozen_ 0
  have g1 := k4.frozen_ 1
  have g2 := k4.frozen_ 2
  clear hb1 k4
  go_wp2_with fail
  refine bodyPost_ret (v := .tuple #[.agg #[.int .i64 0, .int .i64 0, .int .i64 0], .int .i64 0, .int .i64 z]) (by simp [results, Tryd.results21, go_sem, p0, p1, p2]) rfl ?_
  unfold RunPost
  rw [HE.out]
  refine ⟨rfl, ?_⟩
  exact ((HB1.out.setCell (p := ⟨w.heap.size + 1, 0, none⟩) (show w.heap.size ≤ w.heap.size + 1 by omega) _).setCell (p := ⟨w.heap.size + 1, 1, none⟩) (show w.heap.size ≤ w.heap.size + 1 by omega) _).setCell (p := ⟨w.heap.size + 1, 2, none⟩) (show w.heap.size ≤ w.heap.size + 1 by omega) _

theorem runU_cons (r : RI) (x : Int × Int) (t : List (Int × Int)) (h : (stpR r x.2 x.1).2.2.2 = 0) : runU r (x :: t) = ((runU (stpR r x.2 x.1).1 t).1, (runU (stpR r x.2 x.1).1 t).2.1 + 1, (runU (stpR r x.2 x.1).1 t).2.2) := by
  exact if_pos h
theorem runU_stop (r : RI) (x : Int × Int) (t : List (Int × Int)) (h : (stpR r x.2 x.1).2.2.2 ≠ 0) : runU r (x :: t) = (r, 0, (stpR r x.2 x.1).2.2.2) := by
  exact if_neg h

/-- The variable for the result, stored at the end. -/
theorem rrun_put {w V U : World} {B : Nat} {t : TypeId} {a b c : Int} (hk : Blk V (B + 1) t #[.int .i64 0, .int .i64 0, .int .i64 0]) (hb : Below B w V)
    (hU : ((V.setCell ⟨B + 1, 0, none⟩ (.int .i64 a)).setCell ⟨B + 1, 1, none⟩ (.int .i64 b)).setCell ⟨B + 1, 2, none⟩ (.int .i64 c) = U) :
    Blk U (B + 1) t #[.int .i64 a, .int .i64 b, .int .i64 c] ∧ Below B w U := by
  subst hU
  refine ⟨by simpa using ((hk.set_ 0 (.int .i64 a)).set_ 1 (.int .i64 b)).set_ 2 (.int .i64 c), ?_⟩
  exact ((hb.setCell (p := ⟨B + 1, 0, none⟩) (show B ≤ B + 1 by omega) _).setCell (p := ⟨B + 1, 1, none⟩) (show B ≤ B + 1 by omega) _).setCell (p := ⟨B + 1, 2, none⟩) (show B ≤ B + 1 by omega) _

set_option maxRecDepth 100000 in
set_option maxHeartbeats 4000000 in
theorem RRun_good (s f g : Int) (A : Option Addr) (c : Nat) (l : List (Int × Int)) (w : World) (hs : SR chgE w A l) (ll : l.length ≤ 20) (h0 : chkR (s, f, g) = 0) :
    Calls Tryd.prog 21 #[.agg #[.int .i64 s, .int .i64 f, .int .i64 g], .slice A l.length c] w (RunPost (runR (s, f, g) l) w) := by
  have HS := Lib.hid hs; have HC := Lib.hid h0
  have HE : Hid (runR (s, f, g) l = runU (s, f, g) l) := by show _ = _; unfold runR; rw [if_pos h0]
  clear hs h0
  go_enter Tryd.func21, Tryd.ntmps21
  go_wp2_with fail
  refine (rCheck_any s f g _ HC.out).mono ?_
  rintro er w1 ⟨rfl, hb1⟩
  have sz1 : w.heap.size + 2 ≤ w1.heap.size := by have := hb1.size; simp at this; omega
  have K0 : Hid (Blk w1 w.heap.size 23 #[.int .i64 s, .int .i64 f, .int .i64 g]) := Blk.below_ ((Blk.new_ rfl rfl).alloc_ _) hb1 (by first | (simp; done) | (simp; omega))
  have K4 : Hid (Blk w1 (w.heap.size + 1) 23 #[.int .i64 0, .int .i64 0, .int .i64 0]) := Blk.below_ (Blk.new_ (by simp) rfl) hb1 (by first | (simp; done) | (simp; omega))
  have HB1 : Hid (Below w.heap.size w w1) := by show Below _ _ _; exact ((Below.refl _ w).alloc (Nat.le_refl _) _).alloc (by simp) _ |>.trans (hb1.mono (by simp; omega))
  clear hb1
  go_wp2_with fail
  go_loopw [8, 9, 10, 11, 12] (fun i _ _ _ _ wr => ∃ (k : Nat) (s' f' g' : Int), k ≤ l.length ∧ i = .int .i64 k ∧ Hid (runU (s, f, g) l = ((runU (s', f', g') (l.drop k)).1, (k : Int) + (runU (s', f', g') (l.drop k)).2.1, (runU (s', f', g') (l.drop k)).2.2)) ∧ Hid (Blk wr w.heap.size 23 #[.int .i64 s', .int .i64 f', .int .i64 g']) ∧ Hid (Blk wr (w.heap.size + 1) 23 #[.int .i64 0, .int .i64 0, .int .i64 0]) ∧ Hid (Below w.heap.size w wr)) (fun i _ _ _ _ _ => l.length - (intOf i).toNat)
  case atStart =>
    refine ⟨0, s, f, g, Nat.zero_le _, rfl, ?_, K0, K4, HB1⟩
    show _ = _
    simp
  case round =>
    obtain ⟨k, s', f', g', hk, rfl, HU, HK, HR, HB⟩ := hrel
    obtain ⟨wi, rfl⟩ : ∃ wi : World, wi = wr := ⟨_, rfl⟩
    have zw := HB.out.size
    have zk := HK.out.lt
    have zr := HR.out.lt
    by_cases hlt : k < l.length
    · obtain ⟨b, off, ⟨x0, x1⟩, rfl, hbl, hx, c0, c1⟩ := chg_at (HS.out.ext HB.out) hlt
      have hd : l.drop k = (x0, x1) :: l.drop (k + 1) := by rw [List.drop_eq_getElem_cons hlt]; congr 1; exact Option.some.inj ((List.getElem?_eq_getElem hlt).symm.trans hx)
      obtain ⟨⟨⟨s2, f2, g2⟩, fr, mp, z⟩, hst⟩ : ∃ R, stpR (s', f', g') x1 x0 = R := ⟨_, rfl⟩
      have HST := Lib.hid hst
      have i1 : (k : Int) < l.length := by omega
      have hlen : (l.length : Int) ≤ 20 := by omega
      by_cases hz : z = 0
      · subst hz
        have HU2 : Hid (runU (s, f, g) l = ((runU (s2, f2, g2) (l.drop (k + 1))).1, ((k + 1 : Nat) : Int) + (runU (s2, f2, g2) (l.drop (k + 1))).2.1, (runU (s2, f2, g2) (l.drop (k + 1))).2.2)) := by
          show _ = _
          rw [HU.out, hd, runU_cons _ _ _ (by rw [hst])]
          simp only [hst]
          refine Prod.ext rfl (Prod.ext ?_ rfl)
          simp; omega
        clear hst hd hx HU
        go_wp2_with fail
        refine wp_region_chain2 [1, 0, 0, 0, 0, 1, 0, 0, 0, 0, 1, 2, 0, 0, 0, 0, 0, 2, 3, 0, 0, 0] [[], [], [], [], [], [], [], [], [], [], [], [], [11], [12], [12], [12], [12], [], [], [14], [15], [16]] [.kn ?fan0, .is ?fan1, .is ?fan2, .is ?fan3, .is ?fan4, .kn ?fan5, .is ?fan6, .is ?fan7, .is ?fan8, .is ?fan9, .kn ?fan10, .has (StpK ((s2, f2, g2), fr, mp, 0)), .fn [11] fst_, .fn [12] (fun l => tupAt (fst_ l) 0), .fn [12] (fun l => tupAt (fst_ l) 1), .fn [12] (fun l => tupAt (fst_ l) 2), .fn [12] (fun l => tupAt (fst_ l) 3), .has (VarF 23 [.int .i64 0, .int .i64 0, .int .i64 0]), .late, .fn [14] fst_, .fn [15] fst_, .fn [16] fst_] (by rfl) (by rfl) (by kernel_rfl) (by kernel_rfl) (by kernel_rfl) (by kernel_rfl) (by kernel_rfl) (by kernel_rfl) (lts_kn (lts_is (lts_is (lts_is (lts_is (lts_kn (lts_is (lts_is (lts_is (lts_is (lts_kn (lts_has (StpK.lasts ((s2, f2, g2), fr, mp, 0)) (lts_fn (lts_fn (lts_fn (lts_fn (lts_fn (lts_has (VarF.lasts 23 [.int .i64 0, .int .i64 0, .int .i64 0]) (lts_late (lts_fn (lts_fn (lts_fn lts_nil)))))))))))))))))))))) (fun W0 hb0 hz0 => ?_)
        rotate_left 11
        rw [show lateIdx [1, 0, 0, 0, 0, 1, 0, 0, 0, 0, 1, 2, 0, 0, 0, 0, 0, 2, 3, 0, 0, 0] = [18] from by rfl]
        have kW := HK.out.below_ hb0 HK.out.lt
        have p0 : W0.cell? ⟨w.heap.size, 0, none⟩ = some (.int .i64 s') := (kW.cell_ 0).trans (by simp)
        have p1 : W0.cell? ⟨w.heap.size, 1, none⟩ = some (.int .i64 f') := (kW.cell_ 1).trans (by simp)
        have p2 : W0.cell? ⟨w.heap.size, 2, none⟩ = some (.int .i64 g') := (kW.cell_ 2).trans (by simp)
        have p3 := cell_keep hb0 c0 hbl
        have p4 := cell_keep hb0 c1 hbl
        have zW := kW.lt
        have zL : b < W0.heap.size := Nat.lt_of_lt_of_le hbl hb0.size
        clear kW
        refine chn_kn (stp_take (by rfl) ?yan0) ?ran0
        case yan0 =>
          intro w hbw hd
          have r0 := cell_keep hbw p0 zW
          have r1 := cell_keep hbw p1 zW
          have r2 := cell_keep hbw p2 zW
          clear hd
          go_simp
          first | done | with_reducible rfl
        (try simp only [Act.put, List.setIfInBounds_toArray, List.set_cons_zero, List.set_cons_succ, List.nil_append, List.cons_append, Nat.reduceAdd])
        refine chn_is (stp_pure (by rfl) ?yan1) ?ran1
        case yan1 =>
          intro w
          go_simp
          first | done | with_reducible rfl
        (try simp only [Act.put, List.setIfInBounds_toArray, List.set_cons_zero, List.set_cons_succ, List.nil_append, List.cons_append, Nat.reduceAdd])
        refine chn_is (stp_pure (by rfl) ?yan2) ?ran2
        case yan2 =>
          intro w
          go_simp
          first | done | with_reducible rfl
        (try simp only [Act.put, List.setIfInBounds_toArray, List.set_cons_zero, List.set_cons_succ, List.nil_append, List.cons_append, Nat.reduceAdd])
        refine chn_is (stp_pure (by rfl) ?yan3) ?ran3
        case yan3 =>
          intro w
          go_simp
          first | done | with_reducible rfl
        (try simp only [Act.put, List.setIfInBounds_toArray, List.set_cons_zero, List.set_cons_succ, List.nil_append, List.cons_append, Nat.reduceAdd])
        refine chn_is (stp_pure (by rfl) ?yan4) ?ran4
        case yan4 =>
          intro w
          go_simp
          first | done | with_reducible rfl
        (try simp only [Act.put, List.setIfInBounds_toArray, List.set_cons_zero, List.set_cons_succ, List.nil_append, List.cons_append, Nat.reduceAdd])
        refine chn_kn (stp_take (by rfl) ?yan5) ?ran5
        case yan5 =>
          intro w hbw hd
          have r0 := cell_keep hbw p4 zL
          clear hd
          go_simp
          first | done | with_reducible rfl
        (try simp only [Act.put, List.setIfInBounds_toArray, List.set_cons_zero, List.set_cons_succ, List.nil_append, List.cons_append, Nat.reduceAdd])
        refine chn_is (stp_pure (by rfl) ?yan6) ?ran6
        case yan6 =>
          intro w
          go_simp
          first | done | with_reducible rfl
        (try simp only [Act.put, List.setIfInBounds_toArray, List.set_cons_zero, List.set_cons_succ, List.nil_append, List.cons_append, Nat.reduceAdd])
        refine chn_is (stp_pure (by rfl) ?yan7) ?ran7
        case yan7 =>
          intro w
          go_simp
          first | done | with_reducible rfl
        (try simp only [Act.put, List.setIfInBounds_toArray, List.set_cons_zero, List.set_cons_succ, List.nil_append, List.cons_append, Nat.reduceAdd])
        refine chn_is (stp_pure (by rfl) ?yan8) ?ran8
        case yan8 =>
          intro w
          go_simp
          first | done | with_reducible rfl
        (try simp only [Act.put, List.setIfInBounds_toArray, List.set_cons_zero, List.set_cons_succ, List.nil_append, List.cons_append, Nat.reduceAdd])
        refine chn_is (stp_pure (by rfl) ?yan9) ?ran9
        case yan9 =>
          intro w
          go_simp
          first | done | with_reducible rfl
        (try simp only [Act.put, List.setIfInBounds_toArray, List.set_cons_zero, List.set_cons_succ, List.nil_append, List.cons_append, Nat.reduceAdd])
        refine chn_kn (stp_take (by rfl) ?yan10) ?ran10
        case yan10 =>
          intro w hbw hd
          have r0 := cell_keep hbw p3 zL
          clear hd
          go_simp
          first | done | with_reducible rfl
        (try simp only [Act.put, List.setIfInBounds_toArray, List.set_cons_zero, List.set_cons_succ, List.nil_append, List.cons_append, Nat.reduceAdd])
        refine chn_has ?san11 (fun van11 => ?ran11)
        case san11 =>
          intro w hbw hd K Q' hK
          clear hd
          go_simp
          refine (RStep_any s' f' g' x1 x0 _).mono ?_
          unfold StpPost
          rw [HST.out]
          rintro e y ⟨A3, c3, rfl, hi3, hy⟩
          go_wp2_with fail
          refine hK.out (.tuple #[.agg #[.int .i64 s2, .int .i64 f2, .int .i64 g2], .slice A3 fr.length c3, .int .i64 mp, .int .i64 0]) _ _ ?_ ?_ ?_
          · (simp only [Act.put, List.setIfInBounds_toArray, List.set_cons_zero, List.set_cons_succ, List.nil_append, List.cons_append, Nat.reduceAdd])
          · exact (by repeat' (first | with_reducible exact Below.refl _ _ | with_reducible assumption | with_reducible apply Below.drew | with_reducible apply below_drewN | with_reducible apply Below.alloc | with_reducible apply Below.setCell | (with_reducible refine Below.trans ?_ (Below.mono (by assumption) ?_)) | (simp; done) | (simp; omega) | omega | with_reducible apply le_size_alloc | with_reducible apply le_size_drewN | with_reducible apply le_size_drew | with_reducible apply le_size_setCell | with_reducible refine Nat.le_trans ?_ (Below.size (by assumption))))
          · exact ⟨A3, c3, rfl, hi3⟩
        (try simp only [Act.put, List.setIfInBounds_toArray, List.set_cons_zero, List.set_cons_succ, List.nil_append, List.cons_append, Nat.reduceAdd])
        refine chn_fn (van11) (by rfl) (stp_pureK (by rfl) ?yan12) ?ran12
        case yan12 =>
          intro w0 hd w
          clear hd
          go_simp
          first | done | rfl
        (try simp only [Act.put, List.setIfInBounds_toArray, List.set_cons_zero, List.set_cons_succ, List.nil_append, List.cons_append, Nat.reduceAdd])
        refine chn_fn (tupAt (van11) 0) (by rfl) (stp_pureK (by rfl) ?yan13) ?ran13
        case yan13 =>
          intro w0 hd w
          obtain ⟨_, _, A3, c3, rfl, _⟩ : ∃ lo hi, StpK ((s2, f2, g2), fr, mp, 0) van11 lo hi w0 := hd 11 _ _ (by kernel_rfl) rfl rfl
          clear hd
          go_simp
          first | done | rfl
        (try simp only [Act.put, List.setIfInBounds_toArray, List.set_cons_zero, List.set_cons_succ, List.nil_append, List.cons_append, Nat.reduceAdd])
        refine chn_fn (tupAt (van11) 1) (by rfl) (stp_pureK (by rfl) ?yan14) ?ran14
        case yan14 =>
          intro w0 hd w
          obtain ⟨_, _, A3, c3, rfl, _⟩ : ∃ lo hi, StpK ((s2, f2, g2), fr, mp, 0) van11 lo hi w0 := hd 11 _ _ (by kernel_rfl) rfl rfl
          clear hd
          go_simp
          first | done | rfl
        (try simp only [Act.put, List.setIfInBounds_toArray, List.set_cons_zero, List.set_cons_succ, List.nil_append, List.cons_append, Nat.reduceAdd])
        refine chn_fn (tupAt (van11) 2) (by rfl) (stp_pureK (by rfl) ?yan15) ?ran15
        case yan15 =>
          intro w0 hd w
          obtain ⟨_, _, A3, c3, rfl, _⟩ : ∃ lo hi, StpK ((s2, f2, g2), fr, mp, 0) van11 lo hi w0 := hd 11 _ _ (by kernel_rfl) rfl rfl
          clear hd
          go_simp
          first | done | rfl
        (try simp only [Act.put, List.setIfInBounds_toArray, List.set_cons_zero, List.set_cons_succ, List.nil_append, List.cons_append, Nat.reduceAdd])
        refine chn_fn (tupAt (van11) 3) (by rfl) (stp_pureK (by rfl) ?yan16) ?ran16
        case yan16 =>
          intro w0 hd w
          obtain ⟨_, _, A3, c3, rfl, _⟩ : ∃ lo hi, StpK ((s2, f2, g2), fr, mp, 0) van11 lo hi w0 := hd 11 _ _ (by kernel_rfl) rfl rfl
          clear hd
          go_simp
          first | done | rfl
        (try simp only [Act.put, List.setIfInBounds_toArray, List.set_cons_zero, List.set_cons_succ, List.nil_append, List.cons_append, Nat.reduceAdd])
        refine chn_has ?san17 (fun van17 => ?ran17)
        case san17 =>
          intro w hbw hd K Q' hK
          clear hd
          go_simp
          refine hK.out (.pointer (some ⟨w.heap.size, 0, none⟩)) _ _ ?_ ?_ ?_
          · (simp only [Act.put, List.setIfInBounds_toArray, List.set_cons_zero, List.set_cons_succ, List.nil_append, List.cons_append, Nat.reduceAdd])
          · exact (by repeat' (first | with_reducible exact Below.refl _ _ | with_reducible assumption | with_reducible apply Below.drew | with_reducible apply below_drewN | with_reducible apply Below.alloc | with_reducible apply Below.setCell | (with_reducible refine Below.trans ?_ (Below.mono (by assumption) ?_)) | (simp; done) | (simp; omega) | omega | with_reducible apply le_size_alloc | with_reducible apply le_size_drewN | with_reducible apply le_size_drew | with_reducible apply le_size_setCell | with_reducible refine Nat.le_trans ?_ (Below.size (by assumption))))
          · exact ⟨_, rfl, Blk.new_ rfl rfl, Nat.le_refl _, by simp⟩
        (try simp only [Act.put, List.setIfInBounds_toArray, List.set_cons_zero, List.set_cons_succ, List.nil_append, List.cons_append, Nat.reduceAdd])
        refine chn_late ?ran18
        (try simp only [Act.put, List.setIfInBounds_toArray, List.set_cons_zero, List.set_cons_succ, List.nil_append, List.cons_append, Nat.reduceAdd])
        refine chn_fn (tupAt (van11) 1) (by rfl) (stp_pureK (by rfl) ?yan19) ?ran19
        case yan19 =>
          intro w0 hd w
          clear hd
          go_simp
          first | done | rfl
        (try simp only [Act.put, List.setIfInBounds_toArray, List.set_cons_zero, List.set_cons_succ, List.nil_append, List.cons_append, Nat.reduceAdd])
        refine chn_fn (tupAt (van11) 2) (by rfl) (stp_pureK (by rfl) ?yan20) ?ran20
        case yan20 =>
          intro w0 hd w
          clear hd
          go_simp
          first | done | rfl
        (try simp only [Act.put, List.setIfInBounds_toArray, List.set_cons_zero, List.set_cons_succ, List.nil_append, List.cons_append, Nat.reduceAdd])
        refine chn_fn (tupAt (van11) 3) (by rfl) (stp_pureK (by rfl) ?yan21) ?ran21
        case yan21 =>
          intro w0 hd w
          clear hd
          go_simp
          first | done | rfl
        (try simp only [Act.put, List.setIfInBounds_toArray, List.set_cons_zero, List.set_cons_succ, List.nil_append, List.cons_append, Nat.reduceAdd])
        refine chn_end (fun wz lo hi hbz hd hR => ?_)
        obtain ⟨A3, c3, rfl, hi3⟩ : StpK ((s2, f2, g2), fr, mp, 0) van11 (lo 11) (hi 11) wz := hd 11 _ _ rfl rfl
        obtain ⟨bt, rfl, kb, hlo, hhi⟩ : VarF 23 [.int .i64 0, .int .i64 0, .int .i64 0] van17 (lo 17) (hi 17) wz := hd 17 _ _ rfl rfl
        have hWlo := (hR.2 17 _ rfl).1
        clear hd hR
        simp only [tupAt, List.getD_cons_succ, List.getD_cons_zero, Array.getD_eq_getD_getElem?, List.getElem?_toArray, List.getElem?_cons_succ, List.getElem?_cons_zero, Option.getD_some]
        have y0 : wz.cell? ⟨bt, 0, none⟩ = some (.int .i64 0) := (kb.cell_ 0).trans (by simp)
        have y1 : wz.cell? ⟨bt, 1, none⟩ = some (.int .i64 0) := (kb.cell_ 1).trans (by simp)
        have y2 : wz.cell? ⟨bt, 2, none⟩ = some (.int .i64 0) := (kb.cell_ 2).trans (by simp)
        have f0_ := kb.frozen_ 0
        have f1_ := kb.frozen_ 1
        have f2_ := kb.frozen_ 2
        refine late_one (by simp only [List.getElem?_toArray, List.getElem?_cons_succ, List.getElem?_cons_zero]; rfl) (fun K Q' hK => ?_)
        go_simp
        refine hK.out _ ?_
        clear hK K Q'
        obtain ⟨U, hU⟩ : ∃ U, ((wz.setCell ⟨bt, 0, none⟩ (.int .i64 s2)).setCell ⟨bt, 1, none⟩ (.int .i64 f2)).setCell ⟨bt, 2, none⟩ (.int .i64 g2) = U := ⟨_, rfl⟩
        have kU : Blk U bt 23 #[.int .i64 s2, .int .i64 f2, .int .i64 g2] := by rw [← hU]; simpa using ((kb.set_ 0 (.int .i64 s2)).set_ 1 (.int .i64 f2)).set_ 2 (.int .i64 g2)
        have zb := hb0.size
        have bU : Below wi.heap.size wi U := by rw [← hU]; exact ((((hb0.trans (hbz.mono zb))).setCell (p := ⟨bt, 0, none⟩) (show wi.heap.size ≤ bt by omega) _).setCell (p := ⟨bt, 1, none⟩) (show wi.heap.size ≤ bt by omega) _).setCell (p := ⟨bt, 2, none⟩) (show wi.heap.size ≤ bt by omega) _
        rw [hU]
        clear hU y0 y1 y2 f0_ f1_ f2_ kb hi3 hlo hhi hWlo hbz p0 p1 p2 p3 p4 zW zL hb0 hz0 zb
        have HK3 := Lib.hid (HK.out.below_ bU HK.out.lt)
        have HR3 := Lib.hid (HR.out.below_ bU HR.out.lt)
        have HBX := Lib.hid (HB.out.trans (bU.mono HB.out.size))
        have v0 : U.cell? ⟨w.heap.size, 0, none⟩ = some (.int .i64 s') := (HK3.out.cell_ 0).trans (by simp)
        have v1 : U.cell? ⟨w.heap.size, 1, none⟩ = some (.int .i64 f') := (HK3.out.cell_ 1).trans (by simp)
        have v2 : U.cell? ⟨w.heap.size, 2, none⟩ = some (.int .i64 g') := (HK3.out.cell_ 2).trans (by simp)
        have g0 := HK3.out.frozen_ 0
        have g1 := HK3.out.frozen_ 1
        have g2_ := HK3.out.frozen_ 2
        have u0 : U.cell? ⟨bt, 0, none⟩ = some (.int .i64 s2) := (kU.cell_ 0).trans (by simp)
        have u1 : U.cell? ⟨bt, 1, none⟩ = some (.int .i64 f2) := (kU.cell_ 1).trans (by simp)
        have u2 : U.cell? ⟨bt, 2, none⟩ = some (.int .i64 g2) := (kU.cell_ 2).trans (by simp)
        clear kU
        go_wp2_with fail
        go_roundw
        case rel =>
          refine ⟨k + 1, s2, f2, g2, by omega, by go_num, HU2, ?_, ?_, ?_⟩
          · show Blk _ _ _ _
            simpa using ((HK3.out.set_ 0 (.int .i64 s2)).set_ 1 (.int .i64 f2)).set_ 2 (.int .i64 g2)
          · exact ((HR3.out.far_ (p := ⟨w.heap.size, 0, none⟩) (by show w.heap.size + 1 ≠ w.heap.size; omega) _).far_ (p := ⟨w.heap.size, 1, none⟩) (by show w.heap.size + 1 ≠ w.heap.size; omega) _).far_ (p := ⟨w.heap.size, 2, none⟩) (by show w.heap.size + 1 ≠ w.heap.size; omega) _
          · exact ((HBX.out.setCell (p := ⟨w.heap.size, 0, none⟩) (Nat.le_refl _) _).setCell (p := ⟨w.heap.size, 1, none⟩) (Nat.le_refl _) _).setCell (p := ⟨w.heap.size, 2, none⟩) (Nat.le_refl _) _
        case measure => simp [intOf]; omega
      · have HU2 : Hid (runU (s, f, g) l = ((s', f', g'), (k : Int), z)) := by
          show _ = _
          rw [HU.out, hd, runU_stop _ _ _ (by rw [hst]; exact hz)]
          simp [hst]
        have nz : (z != 0) = true := by simpa using hz
        clear hst hd hx HU hz
        go_wp2_with fail
        refine wp_region_chain2 [1, 0, 0, 0, 0, 1, 0, 0, 0, 0, 1, 2, 0, 0, 0, 0, 0, 2, 3, 0, 0, 0] [[], [], [], [], [], [], [], [], [], [], [], [], [11], [12], [12], [12], [12], [], [], [14], [15], [16]] [.kn ?fbn0, .is ?fbn1, .is ?fbn2, .is ?fbn3, .is ?fbn4, .kn ?fbn5, .is ?fbn6, .is ?fbn7, .is ?fbn8, .is ?fbn9, .kn ?fbn10, .has (StpK ((s2, f2, g2), fr, mp, z)), .fn [11] fst_, .fn [12] (fun l => tupAt (fst_ l) 0), .fn [12] (fun l => tupAt (fst_ l) 1), .fn [12] (fun l => tupAt (fst_ l) 2), .fn [12] (fun l => tupAt (fst_ l) 3), .has (VarF 23 [.int .i64 0, .int .i64 0, .int .i64 0]), .late, .fn [14] fst_, .fn [15] fst_, .fn [16] fst_] (by rfl) (by rfl) (by kernel_rfl) (by kernel_rfl) (by kernel_rfl) (by kernel_rfl) (by kernel_rfl) (by kernel_rfl) (lts_kn (lts_is (lts_is (lts_is (lts_is (lts_kn (lts_is (lts_is (lts_is (lts_is (lts_kn (lts_has (StpK.lasts ((s2, f2, g2), fr, mp, z)) (lts_fn (lts_fn (lts_fn (lts_fn (lts_fn (lts_has (VarF.lasts 23 [.int .i64 0, .int .i64 0, .int .i64 0]) (lts_late (lts_fn (lts_fn (lts_fn lts_nil)))))))))))))))))))))) (fun W0 hb0 hz0 => ?_)
        rotate_left 11
        rw [show lateIdx [1, 0, 0, 0, 0, 1, 0, 0, 0, 0, 1, 2, 0, 0, 0, 0, 0, 2, 3, 0, 0, 0] = [18] from by rfl]
        have kW := HK.out.below_ hb0 HK.out.lt
        have p0 : W0.cell? ⟨w.heap.size, 0, none⟩ = some (.int .i64 s') := (kW.cell_ 0).trans (by simp)
        have p1 : W0.cell? ⟨w.heap.size, 1, none⟩ = some (.int .i64 f') := (kW.cell_ 1).trans (by simp)
        have p2 : W0.cell? ⟨w.heap.size, 2, none⟩ = some (.int .i64 g') := (kW.cell_ 2).trans (by simp)
        have p3 := cell_keep hb0 c0 hbl
        have p4 := cell_keep hb0 c1 hbl
        have zW := kW.lt
        have zL : b < W0.heap.size := Nat.lt_of_lt_of_le hbl hb0.size
        clear kW
        refine chn_kn (stp_take (by rfl) ?ybn0) ?rbn0
        case ybn0 =>
          intro w hbw hd
          have r0 := cell_keep hbw p0 zW
          have r1 := cell_keep hbw p1 zW
          have r2 := cell_keep hbw p2 zW
          clear hd
          go_simp
          first | done | with_reducible rfl
        (try simp only [Act.put, List.setIfInBounds_toArray, List.set_cons_zero, List.set_cons_succ, List.nil_append, List.cons_append, Nat.reduceAdd])
        refine chn_is (stp_pure (by rfl) ?ybn1) ?rbn1
        case ybn1 =>
          intro w
          go_simp
          first | done | with_reducible rfl
        (try simp only [Act.put, List.setIfInBounds_toArray, List.set_cons_zero, List.set_cons_succ, List.nil_append, List.cons_append, Nat.reduceAdd])
        refine chn_is (stp_pure (by rfl) ?ybn2) ?rbn2
        case ybn2 =>
          intro w
          go_simp
          first | done | with_reducible rfl
        (try simp only [Act.put, List.setIfInBounds_toArray, List.set_cons_zero, List.set_cons_succ, List.nil_append, List.cons_append, Nat.reduceAdd])
        refine chn_is (stp_pure (by rfl) ?ybn3) ?rbn3
        case ybn3 =>
          intro w
          go_simp
          first | done | with_reducible rfl
        (try simp only [Act.put, List.setIfInBounds_toArray, List.set_cons_zero, List.set_cons_succ, List.nil_append, List.cons_append, Nat.reduceAdd])
        refine chn_is (stp_pure (by rfl) ?ybn4) ?rbn4
        case ybn4 =>
          intro w
          go_simp
          first | done | with_reducible rfl
        (try simp only [Act.put, List.setIfInBounds_toArray, List.set_cons_zero, List.set_cons_succ, List.nil_append, List.cons_append, Nat.reduceAdd])
        refine chn_kn (stp_take (by rfl) ?ybn5) ?rbn5
        case ybn5 =>
          intro w hbw hd
          have r0 := cell_keep hbw p4 zL
          clear hd
          go_simp
          first | done | with_reducible rfl
        (try simp only [Act.put, List.setIfInBounds_toArray, List.set_cons_zero, List.set_cons_succ, List.nil_append, List.cons_append, Nat.reduceAdd])
        refine chn_is (stp_pure (by rfl) ?ybn6) ?rbn6
        case ybn6 =>
          intro w
          go_simp
          first | done | with_reducible rfl
        (try simp only [Act.put, List.setIfInBounds_toArray, List.set_cons_zero, List.set_cons_succ, List.nil_append, List.cons_append, Nat.reduceAdd])
        refine chn_is (stp_pure (by rfl) ?ybn7) ?rbn7
        case ybn7 =>
          intro w
          go_simp
          first | done | with_reducible rfl
        (try simp only [Act.put, List.setIfInBounds_toArray, List.set_cons_zero, List.set_cons_succ, List.nil_append, List.cons_append, Nat.reduceAdd])
        refine chn_is (stp_pure (by rfl) ?ybn8) ?rbn8
        case ybn8 =>
          intro w
          go_simp
          first | done | with_reducible rfl
        (try simp only [Act.put, List.setIfInBounds_toArray, List.set_cons_zero, List.set_cons_succ, List.nil_append, List.cons_append, Nat.reduceAdd])
        refine chn_is (stp_pure (by rfl) ?ybn9) ?rbn9
        case ybn9 =>
          intro w
          go_simp
          first | done | with_reducible rfl
        (try simp only [Act.put, List.setIfInBounds_toArray, List.set_cons_zero, List.set_cons_succ, List.nil_append, List.cons_append, Nat.reduceAdd])
        refine chn_kn (stp_take (by rfl) ?ybn10) ?rbn10
        case ybn10 =>
          intro w hbw hd
          have r0 := cell_keep hbw p3 zL
          clear hd
          go_simp
          first | done | with_reducible rfl
        (try simp only [Act.put, List.setIfInBounds_toArray, List.set_cons_zero, List.set_cons_succ, List.nil_append, List.cons_append, Nat.reduceAdd])
        refine chn_has ?sbn11 (fun vbn11 => ?rbn11)
        case sbn11 =>
          intro w hbw hd K Q' hK
          clear hd
          go_simp
          refine (RStep_any s' f' g' x1 x0 _).mono ?_
          unfold StpPost
          rw [HST.out]
          rintro e y ⟨A3, c3, rfl, hi3, hy⟩
          go_wp2_with fail
          refine hK.out (.tuple #[.agg #[.int .i64 s2, .int .i64 f2, .int .i64 g2], .slice A3 fr.length c3, .int .i64 mp, .int .i64 z]) _ _ ?_ ?_ ?_
          · (simp only [Act.put, List.setIfInBounds_toArray, List.set_cons_zero, List.set_cons_succ, List.nil_append, List.cons_append, Nat.reduceAdd])
          · exact (by repeat' (first | with_reducible exact Below.refl _ _ | with_reducible assumption | with_reducible apply Below.drew | with_reducible apply below_drewN | with_reducible apply Below.alloc | with_reducible apply Below.setCell | (with_reducible refine Below.trans ?_ (Below.mono (by assumption) ?_)) | (simp; done) | (simp; omega) | omega | with_reducible apply le_size_alloc | with_reducible apply le_size_drewN | with_reducible apply le_size_drew | with_reducible apply le_size_setCell | with_reducible refine Nat.le_trans ?_ (Below.size (by assumption))))
          · exact ⟨A3, c3, rfl, hi3⟩
        (try simp only [Act.put, List.setIfInBounds_toArray, List.set_cons_zero, List.set_cons_succ, List.nil_append, List.cons_append, Nat.reduceAdd])
        refine chn_fn (vbn11) (by rfl) (stp_pureK (by rfl) ?ybn12) ?rbn12
        case ybn12 =>
          intro w0 hd w
          clear hd
          go_simp
          first | done | rfl
        (try simp only [Act.put, List.setIfInBounds_toArray, List.set_cons_zero, List.set_cons_succ, List.nil_append, List.cons_append, Nat.reduceAdd])
        refine chn_fn (tupAt (vbn11) 0) (by rfl) (stp_pureK (by rfl) ?ybn13) ?rbn13
        case ybn13 =>
          intro w0 hd w
          obtain ⟨_, _, A3, c3, rfl, _⟩ : ∃ lo hi, StpK ((s2, f2, g2), fr, mp, z) vbn11 lo hi w0 := hd 11 _ _ (by kernel_rfl) rfl rfl
          clear hd
          go_simp
          first | done | rfl
        (try simp only [Act.put, List.setIfInBounds_toArray, List.set_cons_zero, List.set_cons_succ, List.nil_append, List.cons_append, Nat.reduceAdd])
        refine chn_fn (tupAt (vbn11) 1) (by rfl) (stp_pureK (by rfl) ?ybn14) ?rbn14
        case ybn14 =>
          intro w0 hd w
          obtain ⟨_, _, A3, c3, rfl, _⟩ : ∃ lo hi, StpK ((s2, f2, g2), fr, mp, z) vbn11 lo hi w0 := hd 11 _ _ (by kernel_rfl) rfl rfl
          clear hd
          go_simp
          first | done | rfl
        (try simp only [Act.put, List.setIfInBounds_toArray, List.set_cons_zero, List.set_cons_succ, List.nil_append, List.cons_append, Nat.reduceAdd])
        refine chn_fn (tupAt (vbn11) 2) (by rfl) (stp_pureK (by rfl) ?ybn15) ?rbn15
        case ybn15 =>
          intro w0 hd w
          obtain ⟨_, _, A3, c3, rfl, _⟩ : ∃ lo hi, StpK ((s2, f2, g2), fr, mp, z) vbn11 lo hi w0 := hd 11 _ _ (by kernel_rfl) rfl rfl
          clear hd
          go_simp
          first | done | rfl
        (try simp only [Act.put, List.setIfInBounds_toArray, List.set_cons_zero, List.set_cons_succ, List.nil_append, List.cons_append, Nat.reduceAdd])
        refine chn_fn (tupAt (vbn11) 3) (by rfl) (stp_pureK (by rfl) ?ybn16) ?rbn16
        case ybn16 =>
          intro w0 hd w
          obtain ⟨_, _, A3, c3, rfl, _⟩ : ∃ lo hi, StpK ((s2, f2, g2), fr, mp, z) vbn11 lo hi w0 := hd 11 _ _ (by kernel_rfl) rfl rfl
          clear hd
          go_simp
          first | done | rfl
        (try simp only [Act.put, List.setIfInBounds_toArray, List.set_cons_zero, List.set_cons_succ, List.nil_append, List.cons_append, Nat.reduceAdd])
        refine chn_has ?sbn17 (fun vbn17 => ?rbn17)
        case sbn17 =>
          intro w hbw hd K Q' hK
          clear hd
          go_simp
          refine hK.out (.pointer (some ⟨w.heap.size, 0, none⟩)) _ _ ?_ ?_ ?_
          · (simp only [Act.put, List.setIfInBounds_toArray, List.set_cons_zero, List.set_cons_succ, List.nil_append, List.cons_append, Nat.reduceAdd])
          · exact (by repeat' (first | with_reducible exact Below.refl _ _ | with_reducible assumption | with_reducible apply Below.drew | with_reducible apply below_drewN | with_reducible apply Below.alloc | with_reducible apply Below.setCell | (with_reducible refine Below.trans ?_ (Below.mono (by assumption) ?_)) | (simp; done) | (simp; omega) | omega | with_reducible apply le_size_alloc | with_reducible apply le_size_drewN | with_reducible apply le_size_drew | with_reducible apply le_size_setCell | with_reducible refine Nat.le_trans ?_ (Below.size (by assumption))))
          · exact ⟨_, rfl, Blk.new_ rfl rfl, Nat.le_refl _, by simp⟩
        (try simp only [Act.put, List.setIfInBounds_toArray, List.set_cons_zero, List.set_cons_succ, List.nil_append, List.cons_append, Nat.reduceAdd])
        refine chn_late ?rbn18
        (try simp only [Act.put, List.setIfInBounds_toArray, List.set_cons_zero, List.set_cons_succ, List.nil_append, List.cons_append, Nat.reduceAdd])
        refine chn_fn (tupAt (vbn11) 1) (by rfl) (stp_pureK (by rfl) ?ybn19) ?rbn19
        case ybn19 =>
          intro w0 hd w
          clear hd
          go_simp
          first | done | rfl
        (try simp only [Act.put, List.setIfInBounds_toArray, List.set_cons_zero, List.set_cons_succ, List.nil_append, List.cons_append, Nat.reduceAdd])
        refine chn_fn (tupAt (vbn11) 2) (by rfl) (stp_pureK (by rfl) ?ybn20) ?rbn20
        case ybn20 =>
          intro w0 hd w
          clear hd
          go_simp
          first | done | rfl
        (try simp only [Act.put, List.setIfInBounds_toArray, List.set_cons_zero, List.set_cons_succ, List.nil_append, List.cons_append, Nat.reduceAdd])
        refine chn_fn (tupAt (vbn11) 3) (by rfl) (stp_pureK (by rfl) ?ybn21) ?rbn21
        case ybn21 =>
          intro w0 hd w
          clear hd
          go_simp
          first | done | rfl
        (try simp only [Act.put, List.setIfInBounds_toArray, List.set_cons_zero, List.set_cons_succ, List.nil_append, List.cons_append, Nat.reduceAdd])
        refine chn_end (fun wz lo hi hbz hd hR => ?_)
        obtain ⟨A3, c3, rfl, hi3⟩ : StpK ((s2, f2, g2), fr, mp, z) vbn11 (lo 11) (hi 11) wz := hd 11 _ _ rfl rfl
        obtain ⟨bt, rfl, kb, hlo, hhi⟩ : VarF 23 [.int .i64 0, .int .i64 0, .int .i64 0] vbn17 (lo 17) (hi 17) wz := hd 17 _ _ rfl rfl
        have hWlo := (hR.2 17 _ rfl).1
        clear hd hR
        simp only [tupAt, List.getD_cons_succ, List.getD_cons_zero, Array.getD_eq_getD_getElem?, List.getElem?_toArray, List.getElem?_cons_succ, List.getElem?_cons_zero, Option.getD_some]
        have y0 : wz.cell? ⟨bt, 0, none⟩ = some (.int .i64 0) := (kb.cell_ 0).trans (by simp)
        have y1 : wz.cell? ⟨bt, 1, none⟩ = some (.int .i64 0) := (kb.cell_ 1).trans (by simp)
        have y2 : wz.cell? ⟨bt, 2, none⟩ = some (.int .i64 0) := (kb.cell_ 2).trans (by simp)
        have f0_ := kb.frozen_ 0
        have f1_ := kb.frozen_ 1
        have f2_ := kb.frozen_ 2
        refine late_one (by simp only [List.getElem?_toArray, List.getElem?_cons_succ, List.getElem?_cons_zero]; rfl) (fun K Q' hK => ?_)
        go_simp
        refine hK.out _ ?_
        clear hK K Q'
        obtain ⟨U, hU⟩ : ∃ U, ((wz.setCell ⟨bt, 0, none⟩ (.int .i64 s2)).setCell ⟨bt, 1, none⟩ (.int .i64 f2)).setCell ⟨bt, 2, none⟩ (.int .i64 g2) = U := ⟨_, rfl⟩
        have kU : Blk U bt 23 #[.int .i64 s2, .int .i64 f2, .int .i64 g2] := by rw [← hU]; simpa using ((kb.set_ 0 (.int .i64 s2)).set_ 1 (.int .i64 f2)).set_ 2 (.int .i64 g2)
        have zb := hb0.size
        have bU : Below wi.heap.size wi U := by rw [← hU]; exact ((((hb0.trans (hbz.mono zb))).setCell (p := ⟨bt, 0, none⟩) (show wi.heap.size ≤ bt by omega) _).setCell (p := ⟨bt, 1, none⟩) (show wi.heap.size ≤ bt by omega) _).setCell (p := ⟨bt, 2, none⟩) (show wi.heap.size ≤ bt by omega) _
        rw [hU]
        clear hU y0 y1 y2 f0_ f1_ f2_ kb hi3 hlo hhi hWlo hbz p0 p1 p2 p3 p4 zW zL hb0 hz0 zb
        have HK3 := Lib.hid (HK.out.below_ bU HK.out.lt)
        have HR3 := Lib.hid (HR.out.below_ bU HR.out.lt)
        have HBX := Lib.hid (HB.out.trans (bU.mono HB.out.size))
        have v0 : U.cell? ⟨w.heap.size, 0, none⟩ = some (.int .i64 s') := (HK3.out.cell_ 0).trans (by simp)
        have v1 : U.cell? ⟨w.heap.size, 1, none⟩ = some (.int .i64 f') := (HK3.out.cell_ 1).trans (by simp)
        have v2 : U.cell? ⟨w.heap.size, 2, none⟩ = some (.int .i64 g') := (HK3.out.cell_ 2).trans (by simp)
        clear kU
        have p0 : U.cell? ⟨w.heap.size + 1, 0, none⟩ = some (.int .i64 0) := (HR3.out.cell_ 0).trans (by simp)
        have p1 : U.cell? ⟨w.heap.size + 1, 1, none⟩ = some (.int .i64 0) := (HR3.out.cell_ 1).trans (by simp)
        have p2 : U.cell? ⟨w.heap.size + 1, 2, none⟩ = some (.int .i64 0) := (HR3.out.cell_ 2).trans (by simp)
        have g0 := HR3.out.frozen_ 0
        have g1 := HR3.out.frozen_ 1
        have g2_ := HR3.out.frozen_ 2
        go_wp2_with fail
        obtain ⟨V, hV⟩ : ∃ V, ((U.setCell ⟨w.heap.size + 1, 0, none⟩ (.int .i64 s')).setCell ⟨w.heap.size + 1, 1, none⟩ (.int .i64 f')).setCell ⟨w.heap.size + 1, 2, none⟩ (.int .i64 g') = V := ⟨_, rfl⟩
        have HP := rrun_put HR3.out HBX.out hV
        rw [hV]
        have u0 : V.cell? ⟨w.heap.size + 1, 0, none⟩ = some (.int .i64 s') := (HP.1.cell_ 0).trans (by simp)
        have u1 : V.cell? ⟨w.heap.size + 1, 1, none⟩ = some (.int .i64 f') := (HP.1.cell_ 1).trans (by simp)
        have u2 : V.cell? ⟨w.heap.size + 1, 2, none⟩ = some (.int .i64 g') := (HP.1.cell_ 2).trans (by simp)
        refine bodyPost_ret (v := .tuple #[.agg #[.int .i64 s', .int .i64 f', .int .i64 g'], .int .i64 k, .int .i64 z]) (by simp [results, Tryd.results21, go_sem, u0, u1, u2]) rfl ?_
        unfold RunPost
        rw [HE.out, HU2.out]
        exact ⟨rfl, HP.2⟩
    · obtain rfl : k = l.length := by omega
      have HU2 : Hid (runU (s, f, g) l = ((s', f', g'), (l.length : Int), 0)) := by show _ = _; rw [HU.out]; simp [runU]
      clear HU
      have q0 : wi.cell? ⟨w.heap.size, 0, none⟩ = some (.int .i64 s') := (HK.out.cell_ 0).trans (by simp)
      have q1 : wi.cell? ⟨w.heap.size, 1, none⟩ = some (.int .i64 f') := (HK.out.cell_ 1).trans (by simp)
      have q2 : wi.cell? ⟨w.heap.size, 2, none⟩ = some (.int .i64 g') := (HK.out.cell_ 2).trans (by simp)
      have p0 : wi.cell? ⟨w.heap.size + 1, 0, none⟩ = some (.int .i64 0) := (HR.out.cell_ 0).trans (by simp)
      have p1 : wi.cell? ⟨w.heap.size + 1, 1, none⟩ = some (.int .i64 0) := (HR.out.cell_ 1).trans (by simp)
      have p2 : wi.cell? ⟨w.heap.size + 1, 2, none⟩ = some (.int .i64 0) := (HR.out.cell_ 2).trans (by simp)
      have g0 := HR.out.frozen_ 0
      have g1 := HR.out.frozen_ 1
      have g2 := HR.out.frozen_ 2
      go_wp2_with fail
      obtain ⟨U, hU⟩ : ∃ U, ((wi.setCell ⟨w.heap.size + 1, 0, none⟩ (.int .i64 s')).setCell ⟨w.heap.size + 1, 1, none⟩ (.int .i64 f')).setCell ⟨w.heap.size + 1, 2, none⟩ (.int .i64 g') = U := ⟨_, rfl⟩
      have HP := rrun_put HR.out HB.out hU
      rw [hU]
      have u0 : U.cell? ⟨w.heap.size + 1, 0, none⟩ = some (.int .i64 s') := (HP.1.cell_ 0).trans (by simp)
      have u1 : U.cell? ⟨w.heap.size + 1, 1, none⟩ = some (.int .i64 f') := (HP.1.cell_ 1).trans (by simp)
      have u2 : U.cell? ⟨w.heap.size + 1, 2, none⟩ = some (.int .i64 g') := (HP.1.cell_ 2).trans (by simp)
      refine bodyPost_ret (v := .tuple #[.agg #[.int .i64 s', .int .i64 f', .int .i64 g'], .int .i64 l.length, .int .i64 0]) (by simp [results, Tryd.results21, go_sem, u0, u1, u2]) rfl ?_
      unfold RunPost
      rw [HE.out, HU2.out]
      exact ⟨rfl, HP.2⟩

theorem RRun_any (s f g : Int) (A : Option Addr) (c : Nat) (l : List (Int × Int)) (w : World) (hs : SR chgE w A l) (ll : l.length ≤ 20) :
    Calls Tryd.prog 21 #[.agg #[.int .i64 s, .int .i64 f, .int .i64 g], .slice A l.length c] w (RunPost (runR (s, f, g) l) w) := by
  by_cases h0 : chkR (s, f, g) = 0
  · exact RRun_good s f g A c l w hs ll h0
  · exact RRun_bad s f g A c l.length l w h0
end Go.Proofs.YtngenoblifhnpaaDoor
