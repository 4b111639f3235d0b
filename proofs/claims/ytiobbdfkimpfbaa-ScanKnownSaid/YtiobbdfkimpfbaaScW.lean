/- scan.Sweep, where nothing is refused. Written by gen_scw.py. -/
import Derived.Test.YtiobbdfkimpfbaaScU
namespace Go.Proofs.Ytiobbdfkimpfbaa
open Go.RowKit Go.Maps

def SwQ (us vs : List Int) (ss : List Bool) (l : List Int) (w : World) (e : Ending) (w' : World) : Prop :=
  ∃ B1 B2 B3 d1 d2 d3 A c, e = .returned (.tuple #[.agg #[.slice B1 us.length d1, .slice B2 vs.length d2, .slice B3 ss.length d3], .slice A l.length c, .int .i64 0]) ∧ InMem w' B1 B2 B3 us vs ss ∧ Sl w' (.int .i64) A l ∧ Below w.heap.size w w'
theorem cnt_ok {m : Nat} (h : m ≤ 1000) : cntB (m : Int) = true := by unfold cntB; simp; omega

set_option maxRecDepth 100000 in
set_option maxHeartbeats 4000000 in
theorem Sweep_ok (A1 A2 A3 : Option Addr) (c1 c2 c3 : Nat) (xs ys : List Int) (rs : List Bool) (T : Int) (m : Nat) (w : World) (h : InMem w A1 A2 A3 xs ys rs) (hc : lruChk xs ys rs = 0) (ht : tgtB T = true) (hm9 : m ≤ 1000) :
    Calls Try.prog 18 #[.agg #[.slice A1 xs.length c1, .slice A2 ys.length c2, .slice A3 rs.length c3], .int .i64 T, .int .i64 m] w (SwQ (runE T xs ys rs m).xs (runE T xs ys rs m).ys (runE T xs ys rs m).rs (vicP ((full T xs ys rs []).take m)) w) := by
  have HM := Lib.hid h; have HC := Lib.hid hc; have HT := Lib.hid ht; have HN := Lib.hid (cnt_ok hm9)
  have HZ : Hid (sndS xs ys rs true = 0) := by show _ = _; unfold sndS; rw [if_neg (by simpa using hc)]; rfl
  clear h hc ht
  obtain ⟨⟨wh, fr, us, vs, ss, mw⟩, hE⟩ : ∃ R, runE T xs ys rs m = R := ⟨_, rfl⟩
  obtain ⟨l, hl⟩ : ∃ l, vicP ((full T xs ys rs []).take m) = l := ⟨_, rfl⟩
  rw [hE, hl]
  have HE := Lib.hid hE; have HL := Lib.hid hl
  clear hE hl
  dsimp only
  obtain ⟨X, hX⟩ : ∃ X, (w.alloc (.cells #[.slice A1 xs.length c1, .slice A2 ys.length c2, .slice A3 rs.length c3] 25)).alloc (.cells #[.slice none 0 0, .slice none 0 0, .slice none 0 0] 25) = X := ⟨_, rfl⟩
  have k1 : Blk X w.heap.size 25 #[.slice A1 xs.length c1, .slice A2 ys.length c2, .slice A3 rs.length c3] := by rw [← hX]; exact (Blk.new_ rfl rfl).alloc_ _
  have k2 : Blk X (w.heap.size + 1) 25 #[.slice none 0 0, .slice none 0 0, .slice none 0 0] := by rw [← hX]; exact Blk.new_ (by simp) rfl
  have HBX : Hid (Below w.heap.size w X) := by show Below _ _ _; rw [← hX]; exact ((Below.refl _ _).alloc (Nat.le_refl _) _).alloc (by simp) _
  go_enter Try.func18, Try.ntmps18
  go_wp2_with fail
  (try rw [hX])
  clear hX
  refine wp_region_chain2 [1, 0, 1, 0, 0, 1, 0, 1, 0] [[], [], [], [], [], [], [], [], []] [.kn ?fan0, .is ?fan1, .kn (.bool true), .is ?fan3, .is ?fan4, .kn (.bool true), .is ?fan6, .kn (.int .i64 0), .is ?fan8] (by rfl) (by rfl) (by kernel_rfl) (by kernel_rfl) (by kernel_rfl) (by kernel_rfl) (by kernel_rfl) (by kernel_rfl) (lts_kn (lts_is (lts_kn (lts_is (lts_is (lts_kn (lts_is (lts_kn (lts_is lts_nil))))))))) (fun W0 hb0 hz0 => ?_)
  rotate_left 6
  rw [show lateIdx [1, 0, 1, 0, 0, 1, 0, 1, 0] = [] from by rfl]
  have hb1 := HBX.out.trans (hb0.mono HBX.out.size)
  have kW := k1.below_ hb0 k1.lt
  have zW := kW.lt
  have p0 : W0.cell? ⟨w.heap.size, 0, none⟩ = some (.slice A1 xs.length c1) := (kW.cell_ 0).trans (by simp)
  have p1 : W0.cell? ⟨w.heap.size, 1, none⟩ = some (.slice A2 ys.length c2) := (kW.cell_ 1).trans (by simp)
  have p2 : W0.cell? ⟨w.heap.size, 2, none⟩ = some (.slice A3 rs.length c3) := (kW.cell_ 2).trans (by simp)
  refine chn_kn (stp_take (by rfl) ?yan0) ?ran0
  case yan0 =>
    intro w hbw hd
    have r0 := cell_keep hbw p0 zW
    have r1 := cell_keep hbw p1 zW
    have r2 := cell_keep hbw p2 zW
    clear hd
    go_simp
    first | done | with_reducible rfl
  (try simp only [Act.put, List.setIfInBounds_toArray, List.set_cons_zero, List.set_cons_succ, List.nil_append, List.cons_append, Nat.reduceAdd])
  refine chn_is (stp_pure (by rfl) ?yan1) ?ran1
  case yan1 =>
    intro w
    go_simp
    first | done | with_reducible rfl
  (try simp only [Act.put, List.setIfInBounds_toArray, List.set_cons_zero, List.set_cons_succ, List.nil_append, List.cons_append, Nat.reduceAdd])
  refine chn_kn ?san2 ?ran2
  case san2 =>
    intro w hbw hd K Q' hK
    clear hd
    go_simp
    refine (isTarget_any T _).mono ?_
    rw [HT.out]
    rintro e y ⟨rfl, rfl⟩
    go_wp2_with fail
    refine hK.out (.bool true) _ _ ?_ ?_ rfl
    · (simp only [Act.put, List.setIfInBounds_toArray, List.set_cons_zero, List.set_cons_succ, List.nil_append, List.cons_append, Nat.reduceAdd])
    · exact (by repeat' (first | with_reducible exact Below.refl _ _ | with_reducible assumption | with_reducible apply Below.drew | with_reducible apply below_drewN | with_reducible apply Below.alloc | with_reducible apply Below.setCell | (with_reducible refine Below.trans ?_ (Below.mono (by assumption) ?_)) | (simp; done) | (simp; omega) | omega | with_reducible apply le_size_alloc | with_reducible apply le_size_drewN | with_reducible apply le_size_drew | with_reducible apply le_size_setCell | with_reducible refine Nat.le_trans ?_ (Below.size (by assumption))))
  (try simp only [Act.put, List.setIfInBounds_toArray, List.set_cons_zero, List.set_cons_succ, List.nil_append, List.cons_append, Nat.reduceAdd])
  refine chn_is (stp_pure (by rfl) ?yan3) ?ran3
  case yan3 =>
    intro w
    go_simp
    first | done | with_reducible rfl
  (try simp only [Act.put, List.setIfInBounds_toArray, List.set_cons_zero, List.set_cons_succ, List.nil_append, List.cons_append, Nat.reduceAdd])
  refine chn_is (stp_pure (by rfl) ?yan4) ?ran4
  case yan4 =>
    intro w
    go_simp
    first | done | with_reducible rfl
  (try simp only [Act.put, List.setIfInBounds_toArray, List.set_cons_zero, List.set_cons_succ, List.nil_append, List.cons_append, Nat.reduceAdd])
  refine chn_kn ?san5 ?ran5
  case san5 =>
    intro w hbw hd K Q' hK
    clear hd
    go_simp
    refine (isCount_any m _).mono ?_
    rw [HN.out]
    rintro e y ⟨rfl, rfl⟩
    go_wp2_with fail
    refine hK.out (.bool true) _ _ ?_ ?_ rfl
    · (simp only [Act.put, List.setIfInBounds_toArray, List.set_cons_zero, List.set_cons_succ, List.nil_append, List.cons_append, Nat.reduceAdd])
    · exact (by repeat' (first | with_reducible exact Below.refl _ _ | with_reducible assumption | with_reducible apply Below.drew | with_reducible apply below_drewN | with_reducible apply Below.alloc | with_reducible apply Below.setCell | (with_reducible refine Below.trans ?_ (Below.mono (by assumption) ?_)) | (simp; done) | (simp; omega) | omega | with_reducible apply le_size_alloc | with_reducible apply le_size_drewN | with_reducible apply le_size_drew | with_reducible apply le_size_setCell | with_reducible refine Nat.le_trans ?_ (Below.size (by assumption))))
  (try simp only [Act.put, List.setIfInBounds_toArray, List.set_cons_zero, List.set_cons_succ, List.nil_append, List.cons_append, Nat.reduceAdd])
  refine chn_is (stp_pure (by rfl) ?yan6) ?ran6
  case yan6 =>
    intro w
    go_simp
    first | done | with_reducible rfl
  (try simp only [Act.put, List.setIfInBounds_toArray, List.set_cons_zero, List.set_cons_succ, List.nil_append, List.cons_append, Nat.reduceAdd])
  refine chn_kn ?san7 ?ran7
  case san7 =>
    intro w hbw hd K Q' hK
    clear hd
    go_simp
    refine (sound_any A1 A2 A3 c1 c2 c3 xs ys rs true _ (HM.out.ext (hb1.trans (hbw.mono hb1.size)))).mono ?_
    rw [HZ.out]
    rintro e y ⟨rfl, hy⟩
    go_wp2_with fail
    refine hK.out (.int .i64 0) _ _ ?_ ?_ rfl
    · (simp only [Act.put, List.setIfInBounds_toArray, List.set_cons_zero, List.set_cons_succ, List.nil_append, List.cons_append, Nat.reduceAdd])
    · exact (by repeat' (first | with_reducible exact Below.refl _ _ | with_reducible assumption | with_reducible apply Below.drew | with_reducible apply below_drewN | with_reducible apply Below.alloc | with_reducible apply Below.setCell | (with_reducible refine Below.trans ?_ (Below.mono (by assumption) ?_)) | (simp; done) | (simp; omega) | omega | with_reducible apply le_size_alloc | with_reducible apply le_size_drewN | with_reducible apply le_size_drew | with_reducible apply le_size_setCell | with_reducible refine Nat.le_trans ?_ (Below.size (by assumption))))
  (try simp only [Act.put, List.setIfInBounds_toArray, List.set_cons_zero, List.set_cons_succ, List.nil_append, List.cons_append, Nat.reduceAdd])
  refine chn_is (stp_pure (by rfl) ?yan8) ?ran8
  case yan8 =>
    intro w
    go_simp
    first | done | with_reducible rfl
  (try simp only [Act.put, List.setIfInBounds_toArray, List.set_cons_zero, List.set_cons_succ, List.nil_append, List.cons_append, Nat.reduceAdd])
  refine chn_end (fun wz lo hi hbz hd hR => ?_)
  have HB4 := Lib.hid (hb1.trans (hbz.mono hb1.size))
  have K1 := Lib.hid (kW.below_ hbz zW)
  have HX4 := Lib.hid (hb0.trans (hbz.mono hb0.size))
  clear hd hR p0 p1 p2 zW kW hb1 k1 hb0 hbz hz0 HBX
  refine late_none ?_
  obtain ⟨x4, rfl⟩ : ∃ x4 : World, x4 = wz := ⟨_, rfl⟩
  have K2 := Lib.hid (k2.below_ HX4.out k2.lt)
  have kl2 := K2.out.lt
  have q0 : x4.cell? ⟨w.heap.size, 0, none⟩ = some (.slice A1 xs.length c1) := (K1.out.cell_ 0).trans (by simp)
  have q1 : x4.cell? ⟨w.heap.size, 1, none⟩ = some (.slice A2 ys.length c2) := (K1.out.cell_ 1).trans (by simp)
  have q2 : x4.cell? ⟨w.heap.size, 2, none⟩ = some (.slice A3 rs.length c3) := (K1.out.cell_ 2).trans (by simp)
  go_wp2_with fail
  refine (run_any A1 A2 A3 c1 c2 c3 xs ys rs T m x4 (HM.out.ext HB4.out) HC.out hm9).mono ?_
  rw [HE.out, HL.out]
  rintro e x5 ⟨B1, B2, B3, d1, d2, d3, A, c, rfl, hmb, hnb, hcb, hsl, hgl, hb5⟩
  dsimp only at hmb hnb hcb ⊢
  have HMB := Lib.hid hmb; have HNB := Lib.hid hnb; have HSL := Lib.hid hsl; have HGL := Lib.hid hgl
  have z45 := hb5.size
  have K25 := Lib.hid (K2.out.below_ hb5 kl2)
  have HB5 := Lib.hid (HB4.out.trans (hb5.mono HB4.out.size))
  have kl5 := K25.out.lt
  clear hmb hnb hsl hgl hb5 q0 q1 q2 K1 K2 HB4
  have y0 : x5.cell? ⟨w.heap.size + 1, 0, none⟩ = some (.slice none 0 0) := (K25.out.cell_ 0).trans (by simp)
  have y1 : x5.cell? ⟨w.heap.size + 1, 1, none⟩ = some (.slice none 0 0) := (K25.out.cell_ 1).trans (by simp)
  have y2 : x5.cell? ⟨w.heap.size + 1, 2, none⟩ = some (.slice none 0 0) := (K25.out.cell_ 2).trans (by simp)
  have g0 := K25.out.frozen_ 0
  have g1 := K25.out.frozen_ 1
  have g2 := K25.out.frozen_ 2
  have nb1 : w.heap.size + 1 ≠ x5.heap.size := by omega
  have nb2 : x5.heap.size ≠ w.heap.size + 1 := by omega
  go_wp2_with fail
  clear y0 y1 y2 g0 g1 g2
  obtain ⟨U, hU⟩ : ∃ U, (((x5.setCell ⟨w.heap.size + 1, 0, none⟩ (.slice B1 us.length d1)).setCell ⟨w.heap.size + 1, 1, none⟩ (.slice B2 vs.length d2)).setCell ⟨w.heap.size + 1, 2, none⟩ (.slice B3 ss.length d3)).alloc (.cells #[.slice B1 us.length d1, .slice B2 vs.length d2, .slice B3 ss.length d3, .int .i64 T, .int .i64 fr, .int .u64 (wrd 0 mw), .int .u64 (wrd 1 mw), .int .u64 (wrd 2 mw), .int .u64 (wrd 3 mw)] 66) = U := ⟨_, rfl⟩
  have AU : Aside (fun k => k = w.heap.size + 1) x5 U := by rw [← hU]; exact ((((Aside.refl (fun k => k = w.heap.size + 1) x5).setCell (p := ⟨w.heap.size + 1, 0, none⟩) (.inr rfl) _).setCell (p := ⟨w.heap.size + 1, 1, none⟩) (.inr rfl) _).setCell (p := ⟨w.heap.size + 1, 2, none⟩) (.inr rfl) _).alloc _
  have KU : Blk U (w.heap.size + 1) 25 #[.slice B1 us.length d1, .slice B2 vs.length d2, .slice B3 ss.length d3] := by
    rw [← hU]
    simpa using (((K25.out.set_ 0 (.slice B1 us.length d1)).set_ 1 (.slice B2 vs.length d2)).set_ 2 (.slice B3 ss.length d3)).alloc_ (.cells #[.slice B1 us.length d1, .slice B2 vs.length d2, .slice B3 ss.length d3, .int .i64 T, .int .i64 fr, .int .u64 (wrd 0 mw), .int .u64 (wrd 1 mw), .int .u64 (wrd 2 mw), .int .u64 (wrd 3 mw)] 66)
  have MU : InMem U B1 B2 B3 us vs ss := HMB.out.aside AU (HNB.out.sub fun k e => by omega)
  have SU : Sl U (.int .i64) A l := HSL.out.aside_ AU fun _ g e hh => by have := HGL.out g e; omega
  have BU := HB5.out.trans (AU.below (B := w.heap.size) (by have := HB5.out.size; omega) fun k hk e => by omega)
  (try rw [hU])
  have u0 : U.cell? ⟨w.heap.size + 1, 0, none⟩ = some (.slice B1 us.length d1) := (KU.cell_ 0).trans (by simp)
  have u1 : U.cell? ⟨w.heap.size + 1, 1, none⟩ = some (.slice B2 vs.length d2) := (KU.cell_ 1).trans (by simp)
  have u2 : U.cell? ⟨w.heap.size + 1, 2, none⟩ = some (.slice B3 ss.length d3) := (KU.cell_ 2).trans (by simp)
  clear hU KU AU
  refine bodyPost_ret (v := .tuple #[.agg #[.slice B1 us.length d1, .slice B2 vs.length d2, .slice B3 ss.length d3], .slice A l.length c, .int .i64 0]) (by simp [results, Try.results18, go_sem, u0, u1, u2]) rfl ?_
  exact ⟨B1, B2, B3, d1, d2, d3, A, c, rfl, MU, SU, BU⟩
end Go.Proofs.Ytiobbdfkimpfbaa
