/- scan.Sweep, where nothing is refused. Written by gen_scw.py. -/
/- The library's slices.Grow, slices.Concat of two lists; slices.DeleteFunc where nothing is struck. -/
/- scan.Safe, where nothing is refused and no frame that is left was moved. Written by gen_scy.py. -/
import Derived.Test.YtiobbdfkimpfbaaScU
import Derived.Test.YtiobbdfkimpfbaaApp
import Derived.Test.YtiobbdfkimpfbaaSortL
namespace Go.Proofs.Ytiobbdfkimpfbaa
set_option linter.unusedSimpArgs false
set_option linter.unusedVariables false
open Go.RowKit Go.Maps

def SwQ (us vs : List Int) (ss : List Bool) (l : List Int) (w : World) (e : Ending) (w' : World) : Prop :=
  ∃ B1 B2 B3 d1 d2 d3 A c, e = .returned (.tuple #[.agg #[.slice B1 us.length d1, .slice B2 vs.length d2, .slice B3 ss.length d3], .slice A l.length c, .int .i64 0]) ∧ InMem w' B1 B2 B3 us vs ss ∧ Sl w' (.int .i64) A l ∧ Below w.heap.size w w'
theorem cnt_ok {m : Nat} (h : m ≤ 1000) : cntB (m : Int) = true := by unfold cntB; simp; omega

set_option maxRecDepth 100000 in
set_option maxHeartbeats 4000000 in
theorem Sweep_ok (A1 A2 A3 : Option Addr) (c1 c2 c3 : Nat) (xs ys : List Int) (rs : List Bool) (T : Int) (m : Nat) (w : World) (h : InMem w A1 A2 A3 xs ys rs) (hc : lruChk xs ys rs = 0) (ht : tgtB T = true) (hm9 : m ≤ 1000) :
    Calls Try.prog 18 #[.agg #[.slice A1 xs.length c1, .slice A2 ys.length c2, .slice A3 rs.length c3], .int .i64 T, .int .i64 m] w (SwQ (runE T xs ys rs m).xs (runE T xs ys rs m).ys (runE T xs ys rs m).rs (vicP ((full T xs ys rs []).take m)) w) := by
  have HM := Lib.hid h; have HC := Lib.hid hc; have HT := Lib.hid ht; have HN := Lib.hid (cnt_ok hm9)
  have HZ : Hid (sndS xs ys rs true = 0) := by show _ = _; unfold sndS; rw [if_neg (by simpa using hc)]; rfl
  clear h hc ht
  obtain ⟨⟨wh, fr, us, vs, ss, mw⟩, hE⟩ : ∃ R, runE T xs ys rs m = R := ⟨_, rfl⟩
  obtain ⟨l, hl⟩ : ∃ l, vicP ((full T xs ys rs []).take m) = l := ⟨_, rfl⟩
  rw [hE, hl]
  have HE := Lib.hid hE; have HL := Lib.hid hl
  clear hE hl
  dsimp only
  obtain ⟨X, hX⟩ : ∃ X, (w.alloc (.cells #[.slice A1 xs.length c1, .slice A2 ys.length c2, .slice A3 rs.length c3] 25)).alloc (.cells #[.slice none 0 0, .slice none 0 0, .slice none 0 0] 25) = X := ⟨_, rfl⟩
  have k1 : Blk X w.heap.size 25 #[.slice A1 xs.length c1, .slice A2 ys.length c2, .slice A3 rs.length c3] := by rw [← hX]; exact (Blk.new_ rfl rfl).alloc_ _
  have k2 : Blk X (w.heap.size + 1) 25 #[.slice none 0 0, .slice none 0 0, .slice none 0 0] := by rw [← hX]; exact Blk.new_ (by simp) rfl
  have HBX : Hid (Below w.heap.size w X) := by show Below _ _ _; rw [← hX]; exact ((Below.refl _ _).alloc (Nat.le_refl _) _).alloc (by simp) _
  go_enter Try.func18, Try.ntmps18
  go_wp2_with fail
  (try rw [hX])
  clear hX
  refine wp_region_chain2 [1, 0, 1, 0, 0, 1, 0, 1, 0] [[], [], [], [], [], [], [], [], []] [.kn ?fan0, .is ?fan1, .kn (.bool true), .is ?fan3, .is ?fan4, .kn (.bool true), .is ?fan6, .kn (.int .i64 0), .is ?fan8] (by rfl) (by rfl) (by kernel_rfl) (by kernel_rfl) (by kernel_rfl) (by kernel_rfl) (by kernel_rfl) (by kernel_rfl) (lts_kn (lts_is (lts_kn (lts_is (lts_is (lts_kn (lts_is (lts_kn (lts_is lts_nil))))))))) (fun W0 hb0 hz0 => ?_)
  rotate_left 6
  rw [show lateIdx [1, 0, 1, 0, 0, 1, 0, 1, 0] = [] from by rfl]
  have hb1 := HBX.out.trans (hb0.mono HBX.out.size)
  have kW := k1.below_ hb0 k1.lt
  have zW := kW.lt
  have p0 : W0.cell? ⟨w.heap.size, 0, none⟩ = some (.slice A1 xs.length c1) := (kW.cell_ 0).trans (by simp)
  have p1 : W0.cell? ⟨w.heap.size, 1, none⟩ = some (.slice A2 ys.length c2) := (kW.cell_ 1).trans (by simp)
  have p2 : W0.cell? ⟨w.heap.size, 2, none⟩ = some (.slice A3 rs.length c3) := (kW.cell_ 2).trans (by simp)
  refine chn_kn (stp_take (by rfl) ?yan0) ?ran0
  case yan0 =>
    intro w hbw hd
    have r0 := cell_keep hbw p0 zW
    have r1 := cell_keep hbw p1 zW
    have r2 := cell_keep hbw p2 zW
    clear hd
    go_simp
    first | done | with_reducible rfl
  (try simp only [Act.put, List.setIfInBounds_toArray, List.set_cons_zero, List.set_cons_succ, List.nil_append, List.cons_append, Nat.reduceAdd])
  refine chn_is (stp_pure (by rfl) ?yan1) ?ran1
  case yan1 =>
    intro w
    go_simp
    first | done | with_reducible rfl
  (try simp only [Act.put, List.setIfInBounds_toArray, List.set_cons_zero, List.set_cons_succ, List.nil_append, List.cons_append, Nat.reduceAdd])
  refine chn_kn ?san2 ?ran2
  case san2 =>
    intro w hbw hd K Q' hK
    clear hd
    go_simp
    refine (isTarget_any T _).mono ?_
    rw [HT.out]
    rintro e y ⟨rfl, rfl⟩
    go_wp2_with fail
    refine hK.out (.bool true) _ _ ?_ ?_ rfl
    · (simp only [Act.put, List.setIfInBounds_toArray, List.set_cons_zero, List.set_cons_succ, List.nil_append, List.cons_append, Nat.reduceAdd])
    · exact (by repeat' (first | with_reducible exact Below.refl _ _ | with_reducible assumption | with_reducible apply Below.drew | with_reducible apply below_drewN | with_reducible apply Below.alloc | with_reducible apply Below.setCell | (with_reducible refine Below.trans ?_ (Below.mono (by assumption) ?_)) | (simp; done) | (simp; omega) | omega | with_reducible apply le_size_alloc | with_reducible apply le_size_drewN | with_reducible apply le_size_drew | with_reducible apply le_size_setCell | with_reducible refine Nat.le_trans ?_ (Below.size (by assumption))))
  (try simp only [Act.put, List.setIfInBounds_toArray, List.set_cons_zero, List.set_cons_succ, List.nil_append, List.cons_append, Nat.reduceAdd])
  refine chn_is (stp_pure (by rfl) ?yan3) ?ran3
  case yan3 =>
    intro w
    go_simp
    first | done | with_reducible rfl
  (try simp only [Act.put, List.setIfInBounds_toArray, List.set_cons_zero, List.set_cons_succ, List.nil_append, List.cons_append, Nat.reduceAdd])
  refine chn_is (stp_pure (by rfl) ?yan4) ?ran4
  case yan4 =>
    intro w
    go_simp
    first | done | with_reducible rfl
  (try simp only [Act.put, List.setIfInBounds_toArray, List.set_cons_zero, List.set_cons_succ, List.nil_append, List.cons_append, Nat.reduceAdd])
  refine chn_kn ?san5 ?ran5
  case san5 =>
    intro w hbw hd K Q' hK
    clear hd
    go_simp
    refine (isCount_any m _).mono ?_
    rw [HN.out]
    rintro e y ⟨rfl, rfl⟩
    go_wp2_with fail
    refine hK.out (.bool true) _ _ ?_ ?_ rfl
    · (simp only [Act.put, List.setIfInBounds_toArray, List.set_cons_zero, List.set_cons_succ, List.nil_append, List.cons_append, Nat.reduceAdd])
    · exact (by repeat' (first | with_reducible exact Below.refl _ _ | with_reducible assumption | with_reducible apply Below.drew | with_reducible apply below_drewN | with_reducible apply Below.alloc | with_reducible apply Below.setCell | (with_reducible refine Below.trans ?_ (Below.mono (by assumption) ?_)) | (simp; done) | (simp; omega) | omega | with_reducible apply le_size_alloc | with_reducible apply le_size_drewN | with_reducible apply le_size_drew | with_reducible apply le_size_setCell | with_reducible refine Nat.le_trans ?_ (Below.size (by assumption))))
  (try simp only [Act.put, List.setIfInBounds_toArray, List.set_cons_zero, List.set_cons_succ, List.nil_append, List.cons_append, Nat.reduceAdd])
  refine chn_is (stp_pure (by rfl) ?yan6) ?ran6
  case yan6 =>
    intro w
    go_simp
    first | done | with_reducible rfl
  (try simp only [Act.put, List.setIfInBounds_toArray, List.set_cons_zero, List.set_cons_succ, List.nil_append, List.cons_append, Nat.reduceAdd])
  refine chn_kn ?san7 ?ran7
  case san7 =>
    intro w hbw hd K Q' hK
    clear hd
    go_simp
    refine (sound_any A1 A2 A3 c1 c2 c3 xs ys rs true _ (HM.out.ext (hb1.trans (hbw.mono hb1.size)))).mono ?_
    rw [HZ.out]
    rintro e y ⟨rfl, hy⟩
    go_wp2_with fail
    refine hK.out (.int .i64 0) _ _ ?_ ?_ rfl
    · (simp only [Act.put, List.setIfInBounds_toArray, List.set_cons_zero, List.set_cons_succ, List.nil_append, List.cons_append, Nat.reduceAdd])
    · exact (by repeat' (first | with_reducible exact Below.refl _ _ | with_reducible assumption | with_reducible apply Below.drew | with_reducible apply below_drewN | with_reducible apply Below.alloc | with_reducible apply Below.setCell | (with_reducible refine Below.trans ?_ (Below.mono (by assumption) ?_)) | (simp; done) | (simp; omega) | omega | with_reducible apply le_size_alloc | with_reducible apply le_size_drewN | with_reducible apply le_size_drew | with_reducible apply le_size_setCell | with_reducible refine Nat.le_trans ?_ (Below.size (by assumption))))
  (try simp only [Act.put, List.setIfInBounds_toArray, List.set_cons_zero, List.set_cons_succ, List.nil_append, List.cons_append, Nat.reduceAdd])
  refine chn_is (stp_pure (by rfl) ?yan8) ?ran8
  case yan8 =>
    intro w
    go_simp
    first | done | with_reducible rfl
  (try simp only [Act.put, List.setIfInBounds_toArray, List.set_cons_zero, List.set_cons_succ, List.nil_append, List.cons_append, Nat.reduceAdd])
  refine chn_end (fun wz lo hi hbz hd hR => ?_)
  have HB4 := Lib.hid (hb1.trans (hbz.mono hb1.size))
  have K1 := Lib.hid (kW.below_ hbz zW)
  have HX4 := Lib.hid (hb0.trans (hbz.mono hb0.size))
  clear hd hR p0 p1 p2 zW kW hb1 k1 hb0 hbz hz0 HBX
  refine late_none ?_
  obtain ⟨x4, rfl⟩ : ∃ x4 : World, x4 = wz := ⟨_, rfl⟩
  have K2 := Lib.hid (k2.below_ HX4.out k2.lt)
  have kl2 := K2.out.lt
  have q0 : x4.cell? ⟨w.heap.size, 0, none⟩ = some (.slice A1 xs.length c1) := (K1.out.cell_ 0).trans (by simp)
  have q1 : x4.cell? ⟨w.heap.size, 1, none⟩ = some (.slice A2 ys.length c2) := (K1.out.cell_ 1).trans (by simp)
  have q2 : x4.cell? ⟨w.heap.size, 2, none⟩ = some (.slice A3 rs.length c3) := (K1.out.cell_ 2).trans (by simp)
  go_wp2_with fail
  refine (run_any A1 A2 A3 c1 c2 c3 xs ys rs T m x4 (HM.out.ext HB4.out) HC.out hm9).mono ?_
  rw [HE.out, HL.out]
  rintro e x5 ⟨B1, B2, B3, d1, d2, d3, A, c, rfl, hmb, hnb, hcb, hsl, hgl, hb5⟩
  dsimp only at hmb hnb hcb ⊢
  have HMB := Lib.hid hmb; have HNB := Lib.hid hnb; have HSL := Lib.hid hsl; have HGL := Lib.hid hgl
  have z45 := hb5.size
  have K25 := Lib.hid (K2.out.below_ hb5 kl2)
  have HB5 := Lib.hid (HB4.out.trans (hb5.mono HB4.out.size))
  have kl5 := K25.out.lt
  clear hmb hnb hsl hgl hb5 q0 q1 q2 K1 K2 HB4
  have y0 : x5.cell? ⟨w.heap.size + 1, 0, none⟩ = some (.slice none 0 0) := (K25.out.cell_ 0).trans (by simp)
  have y1 : x5.cell? ⟨w.heap.size + 1, 1, none⟩ = some (.slice none 0 0) := (K25.out.cell_ 1).trans (by simp)
  have y2 : x5.cell? ⟨w.heap.size + 1, 2, none⟩ = some (.slice none 0 0) := (K25.out.cell_ 2).trans (by simp)
  have g0 := K25.out.frozen_ 0
  have g1 := K25.out.frozen_ 1
  have g2 := K25.out.frozen_ 2
  have nb1 : w.heap.size + 1 ≠ x5.heap.size := by omega
  have nb2 : x5.heap.size ≠ w.heap.size + 1 := by omega
  go_wp2_with fail
  clear y0 y1 y2 g0 g1 g2
  obtain ⟨U, hU⟩ : ∃ U, (((x5.setCell ⟨w.heap.size + 1, 0, none⟩ (.slice B1 us.length d1)).setCell ⟨w.heap.size + 1, 1, none⟩ (.slice B2 vs.length d2)).setCell ⟨w.heap.size + 1, 2, none⟩ (.slice B3 ss.length d3)).alloc (.cells #[.slice B1 us.length d1, .slice B2 vs.length d2, .slice B3 ss.length d3, .int .i64 T, .int .i64 fr, .int .u64 (wrd 0 mw), .int .u64 (wrd 1 mw), .int .u64 (wrd 2 mw), .int .u64 (wrd 3 mw)] 66) = U := ⟨_, rfl⟩
  have AU : Aside (fun k => k = w.heap.size + 1) x5 U := by rw [← hU]; exact ((((Aside.refl (fun k => k = w.heap.size + 1) x5).setCell (p := ⟨w.heap.size + 1, 0, none⟩) (.inr rfl) _).setCell (p := ⟨w.heap.size + 1, 1, none⟩) (.inr rfl) _).setCell (p := ⟨w.heap.size + 1, 2, none⟩) (.inr rfl) _).alloc _
  have KU : Blk U (w.heap.size + 1) 25 #[.slice B1 us.length d1, .slice B2 vs.length d2, .slice B3 ss.length d3] := by
    rw [← hU]
    simpa using (((K25.out.set_ 0 (.slice B1 us.length d1)).set_ 1 (.slice B2 vs.length d2)).set_ 2 (.slice B3 ss.length d3)).alloc_ (.cells #[.slice B1 us.length d1, .slice B2 vs.length d2, .slice B3 ss.length d3, .int .i64 T, .int .i64 fr, .int .u64 (wrd 0 mw), .int .u64 (wrd 1 mw), .int .u64 (wrd 2 mw), .int .u64 (wrd 3 mw)] 66)
  have MU : InMem U B1 B2 B3 us vs ss := HMB.out.aside AU (HNB.out.sub fun k e => by omega)
  have SU : Sl U (.int .i64) A l := HSL.out.aside_ AU fun _ g e hh => by have := HGL.out g e; omega
  have BU := HB5.out.trans (AU.below (B := w.heap.size) (by have := HB5.out.size; omega) fun k hk e => by omega)
  (try rw [hU])
  have u0 : U.cell? ⟨w.heap.size + 1, 0, none⟩ = some (.slice B1 us.length d1) := (KU.cell_ 0).trans (by simp)
  have u1 : U.cell? ⟨w.heap.size + 1, 1, none⟩ = some (.slice B2 vs.length d2) := (KU.cell_ 1).trans (by simp)
  have u2 : U.cell? ⟨w.heap.size + 1, 2, none⟩ = some (.slice B3 ss.length d3) := (KU.cell_ 2).trans (by simp)
  clear hU KU AU
  refine bodyPost_ret (v := .tuple #[.agg #[.slice B1 us.length d1, .slice B2 vs.length d2, .slice B3 ss.length d3], .slice A l.length c, .int .i64 0]) (by simp [results, Try.results18, go_sem, u0, u1, u2]) rfl ?_
  exact ⟨B1, B2, B3, d1, d2, d3, A, c, rfl, MU, SU, BU⟩
end Go.Proofs.Ytiobbdfkimpfbaa
namespace Go.Proofs.Ytiobbdfkimpfbaa
set_option linter.unusedSimpArgs false
set_option linter.unusedVariables false
open Go.RowKit Go.Maps

set_option maxRecDepth 100000 in
set_option maxHeartbeats 4000000 in
theorem grow_nil (n : Nat) (hn : n ≤ 100000) (w : World) :
    Calls Try.prog 76 #[.slice none 0 0, .int .i64 n] w fun e w' => ∃ A c, e = .returned (.slice A 0 c) ∧ Own w' w.heap.size 3 (.int .i64) (.slice A 0 c) ([] : List Int) ∧ Below w.heap.size w w' := by
  obtain ⟨i0, hi0, hz0, hz1, hz2⟩ := info_parts intInfo
  by_cases h0 : n = 0
  · subst h0
    go_enter Try.func76, Try.ntmps76
    go_wp2_with fail
    go_ret
    exact ⟨none, 0, rfl, World.ownsRow_nil _ _ _ _, Below.refl _ _⟩
  · have hp : (0 : Int) < n := by omega
    have hp2 : 0 < n := by omega
    have hn0 : ¬ (n : Int) < 0 := by omega
    clear h0
    go_enter Try.func76, Try.ntmps76
    go_wp2_with (at_builtin; refine Lib.wpList_append_run _ rfl _ _ _ _ rfl _ _ rfl rfl _ _ (Lib.run_append_nil_zeros _ 22 3 _ 3 i0 (.int .i64 0) .i64 .i64 Try.underlying22 Try.underlying3 hi0 hz0 n hp2 (by rw [hz1]; decide) (by omega) (by rw [hz2]; omega)) ?_)
    go_ret
    have c1 := grownCap_ge w n 0 3
    have c2 := grownCap_le_maxLen w n 0 3 (by unfold maxLen; omega)
    generalize grownCap w n 0 3 = cap at *
    have hs : (Builtin.zeroCells #[Value.int .i64 0] n ++ Builtin.zeroCells #[Value.int .i64 0] (cap - n)).size = cap := by
      simp [Builtin.zeroCells]; omega
    refine ⟨some ⟨w.heap.size, 0, none⟩, cap, rfl, ?_, ((Below.refl _ _).alloc (Nat.le_refl _) _).drew⟩
    have hB : Blk (w.alloc (.cells (Builtin.zeroCells #[Value.int .i64 0] n ++ Builtin.zeroCells #[Value.int .i64 0] (cap - n)) 3)).drew w.heap.size 3 (Builtin.zeroCells #[Value.int .i64 0] n ++ Builtin.zeroCells #[Value.int .i64 0] (cap - n)) := Blk.drew_ (Blk.new_ rfl rfl)
    have := Own.of_blk (mk := Value.int .i64) (xs := ([] : List Int)) hB (Nat.le_refl _) (Nat.zero_le _) (by rw [hs]; exact c2) (fun j x h => by simp at h)
    rw [hs] at this
    exact this

set_option maxRecDepth 100000 in
set_option maxHeartbeats 4000000 in
theorem concat_two (b : Nat) (A1 A2 : Option Addr) (c1 c2 : Nat) (xs ys : List Int) (w : World) (hb : Blk w b 22 #[.slice A1 xs.length c1, .slice A2 ys.length c2]) (h1 : Sl w (.int .i64) A1 xs) (h2 : Sl w (.int .i64) A2 ys) (l1 : xs.length ≤ 1000) (l2 : ys.length ≤ 1000) :
    Calls Try.prog 55 #[.slice (some ⟨b, 0, none⟩) 2 2] w fun e w' => ∃ A c, e = .returned (.slice A (xs ++ ys).length c) ∧ Own w' w.heap.size 3 (.int .i64) (.slice A (xs ++ ys).length c) (xs ++ ys) ∧ Below w.heap.size w w' := by
  obtain ⟨i0, hi0, hz0, hz1, hz2⟩ := info_parts intInfo
  have HB := Lib.hid hb; have H1 := Lib.hid h1; have H2 := Lib.hid h2
  have q0 : w.cell? ⟨b, 0, none⟩ = some (.slice A1 xs.length c1) := (hb.cell_ 0).trans (by simp)
  have q1 : w.cell? ⟨b, 1, none⟩ = some (.slice A2 ys.length c2) := (hb.cell_ 1).trans (by simp)
  have hlt := hb.lt
  have n0 : ¬ (xs.length : Int) < 0 := by omega
  have n1 : ¬ (xs.length : Int) + ys.length < 0 := by omega
  clear hb h1 h2
  go_enter Try.func55, Try.ntmps55
  go_wp2_with fail
  refine wp_loop_rounds 3 ?_
  rw [rounds_succ]
  go_wp2_with fail
  rw [rounds_succ]
  go_wp2_with fail
  rw [rounds_succ]
  go_wp2_with fail
  have hg := grow_nil (xs.length + ys.length) (by omega) w
  rw [Int.natCast_add] at hg
  refine hg.mono ?_
  rintro e x1 ⟨A, c, rfl, ho, hx1⟩
  have HO := Lib.hid ho; have HX := Lib.hid hx1
  have p0 := cell_keep hx1 q0 hlt
  have p1 := cell_keep hx1 q1 hlt
  have hz := hx1.size
  clear ho hx1 q0 q1 n0 n1 hg
  go_wp2_with fail
  refine wp_loop_rounds 3 ?_
  rw [rounds_succ]
  go_wp2_with (at_builtin; refine wpList_appS _ rfl (.tmp 31) (.tmp 32) _ rfl 3 i0 (.int .i64 0) 8 Try.underlying22 hi0 hz0 hz1 hz2 rfl w.heap.size A c ([] : List Int) rfl HO.out A1 c1 xs rfl (H1.out.ext HX.out) (int_one xs) (by simp; omega) (by simp; omega) (by omega) ?_; intro A' c' w2 ho2 hg2 _)
  have HX2 : Hid (Below w.heap.size w w2) := HX.out.grown hg2 (by omega) (fun k e => (HO.out.block k e).1)
  have HO2 : Hid (Own w2 w.heap.size 3 (.int .i64) (.slice A' xs.length c') xs) := ho2
  have p0' := cell_keep HX2.out ((HB.out.cell_ 0).trans (by simp; rfl)) hlt
  have p1' := cell_keep HX2.out ((HB.out.cell_ 1).trans (by simp; rfl)) hlt
  have hz2' := HX2.out.size
  clear ho2 hg2 p0 p1
  (try simp only [List.nil_append])
  rw [rounds_succ]
  go_wp2_with (at_builtin; refine wpList_appS _ rfl (.tmp 31) (.tmp 32) _ rfl 3 i0 (.int .i64 0) 8 Try.underlying22 hi0 hz0 hz1 hz2 rfl w.heap.size A' c' xs rfl HO2.out A2 c2 ys rfl (H2.out.ext HX2.out) (int_one ys) (by omega) (by omega) (by omega) ?_; intro A'' c'' w3 ho3 hg3 _)
  have HX3 : Hid (Below w.heap.size w w3) := HX2.out.grown hg3 (by omega) (fun k e => (HO2.out.block k e).1)
  have HO3 := Lib.hid ho3
  clear ho3 hg3 p0' p1'
  rw [rounds_succ]
  go_wp2_with fail
  go_ret
  exact ⟨A'', c'', by rw [List.length_append]; rfl, HO3.out, HX3.out⟩

set_option maxRecDepth 100000 in
set_option maxHeartbeats 4000000 in
theorem has_mem (b : Nat) (mv : List Int) (f : Int) (w : World) (hw : ∀ q : Nat, q < 4 → w.cell? ⟨b, 5 + q, none⟩ = some (.int .u64 (wrd q mv))) (f0 : 0 ≤ f) (f1 : f < 256) (hm : ∀ g ∈ mv, 0 ≤ g) :
    Calls Try.prog 57 #[.pointer (some ⟨b, 5, none⟩), .int .i64 f] w fun e w' => e = .returned (.bool (decide (f ∈ mv))) ∧ w = w' := by
  obtain ⟨q, r, hq, hr, rfl⟩ : ∃ q r : Nat, q < 4 ∧ r < 64 ∧ f = 64 * (q : Int) + r := ⟨f.toNat / 64, f.toNat % 64, by omega, by omega, by omega⟩
  have := has_any b 5 q r (wrd q mv) w hq hr (hw q hq) (wrd_lt q mv)
  rw [wrd_has hr hm] at this
  simpa using this

set_option maxRecDepth 100000 in
set_option maxHeartbeats 4000000 in
theorem indexFunc_none (b : Nat) (mv : List Int) (A : Option Addr) (c : Nat) (xs : List Int) (w : World) (h : Sl w (.int .i64) A xs) (hl : xs.length ≤ 1000) (hw : ∀ q : Nat, q < 4 → w.cell? ⟨b, 5 + q, none⟩ = some (.int .u64 (wrd q mv)))
    (hx : ∀ x ∈ xs, 0 ≤ x ∧ x < 256) (hm : ∀ g ∈ mv, 0 ≤ g) (hn : ∀ x ∈ xs, x ∉ mv) :
    Calls Try.prog 77 #[.slice A xs.length c, .func (.func 57) #[.pointer (some ⟨b, 5, none⟩)] #[]] w fun e w' => e = .returned (.int .i64 (-1)) ∧ w = w' := by
  have H := Lib.hid h; have HW := Lib.hid hw; have HX := Lib.hid hx; have HMM := Lib.hid hm; have HN := Lib.hid hn
  clear h hw hx hm hn
  go_enter Try.func77, Try.ntmps77
  go_wp2_with fail
  go_loopw [5, 8] (fun _ i wr => ∃ k : Nat, k ≤ xs.length ∧ i = .int .i64 k ∧ w = wr) (fun _ i _ => xs.length - (intOf i).toNat)
  case atStart => exact ⟨0, Nat.zero_le _, rfl, rfl⟩
  case round =>
    obtain ⟨k, hk, rfl, rfl⟩ := hrel
    by_cases hlt : k < xs.length
    · obtain ⟨bb, off, x, rfl, hb, hx, hc⟩ := H.out.at_ hlt
      have i1 : (k : Int) < xs.length := by omega
      have hxr := HX.out x (List.mem_of_getElem? hx)
      have hxn := HN.out x (List.mem_of_getElem? hx)
      clear hx
      go_wp2_with fail
      refine (has_mem b mv x w HW.out hxr.1 hxr.2 HMM.out).mono ?_
      rw [decide_eq_false hxn]
      rintro e y ⟨rfl, rfl⟩
      clear hxn hxr
      go_wp2_with fail
      go_roundw
      case rel => exact ⟨k + 1, by omega, by go_num, by first | rfl | trivial⟩
      case measure => simp [intOf]; omega
    · obtain rfl : k = xs.length := by omega
      go_wp2_with fail
      go_ret
      exact ⟨rfl, rfl⟩

set_option maxRecDepth 100000 in
set_option maxHeartbeats 4000000 in
theorem deleteFunc_none (b : Nat) (mv : List Int) (A : Option Addr) (c : Nat) (xs : List Int) (w : World) (h : Sl w (.int .i64) A xs) (hl : xs.length ≤ 1000) (hw : ∀ q : Nat, q < 4 → w.cell? ⟨b, 5 + q, none⟩ = some (.int .u64 (wrd q mv)))
    (hx : ∀ x ∈ xs, 0 ≤ x ∧ x < 256) (hm : ∀ g ∈ mv, 0 ≤ g) (hn : ∀ x ∈ xs, x ∉ mv) :
    Calls Try.prog 56 #[.slice A xs.length c, .func (.func 57) #[.pointer (some ⟨b, 5, none⟩)] #[]] w fun e w' => e = .returned (.slice A xs.length c) ∧ w = w' := by
  have H := Lib.hid (indexFunc_none b mv A c xs w h hl hw hx hm hn)
  clear h hw hx hm hn
  go_enter Try.func56, Try.ntmps56
  go_wp2_with fail
  refine H.out.mono ?_
  rintro e y ⟨rfl, rfl⟩
  go_wp2_with fail
  go_ret
  exact ⟨rfl, rfl⟩
end Go.Proofs.Ytiobbdfkimpfbaa
namespace Go.Proofs.Ytiobbdfkimpfbaa
set_option linter.unusedSimpArgs false
set_option linter.unusedVariables false
open Go.RowKit Go.Maps

theorem part_u64 (w : World) (xs : Array Value) (i : Nat) (v : Value) (h : xs[i]? = some v) : (part 62 xs i).run Try.prog w = .ok v w := run_part_plain w (by kernel_rfl) h
theorem eqIn_u64 (w : World) (d : Nat) (a b : Int) : (Op.equalIn (d + 1) 62 (.int .u64 a) (.int .u64 b)).run Try.prog w = .ok (a == b) w := by
  simp [Op.equalIn, run_underlying Try.underlying62]
theorem eq_frames (w : World) (a b c d : Int) : (Op.equalIn 10000 64 (.agg #[.int .u64 a, .int .u64 b, .int .u64 c, .int .u64 d]) (.agg #[.int .u64 0, .int .u64 0, .int .u64 0, .int .u64 0])).run Try.prog w = .ok (a == 0 && (b == 0 && (c == 0 && d == 0))) w := by
  have hs : Try.prog.stoodInHeld 64 = false := by kernel_rfl
  have h0 := part_u64 w #[.int .u64 a, .int .u64 b, .int .u64 c, .int .u64 d] 0 (.int .u64 a) rfl
  have h1 := part_u64 w #[.int .u64 a, .int .u64 b, .int .u64 c, .int .u64 d] 1 (.int .u64 b) rfl
  have h2 := part_u64 w #[.int .u64 a, .int .u64 b, .int .u64 c, .int .u64 d] 2 (.int .u64 c) rfl
  have h3 := part_u64 w #[.int .u64 a, .int .u64 b, .int .u64 c, .int .u64 d] 3 (.int .u64 d) rfl
  have k0 := part_u64 w #[.int .u64 0, .int .u64 0, .int .u64 0, .int .u64 0] 0 (.int .u64 0) rfl
  have k1 := part_u64 w #[.int .u64 0, .int .u64 0, .int .u64 0, .int .u64 0] 1 (.int .u64 0) rfl
  have k2 := part_u64 w #[.int .u64 0, .int .u64 0, .int .u64 0, .int .u64 0] 2 (.int .u64 0) rfl
  have k3 := part_u64 w #[.int .u64 0, .int .u64 0, .int .u64 0, .int .u64 0] 3 (.int .u64 0) rfl
  have e1 := eqIn_u64 w 9998 a 0
  have e2 := eqIn_u64 w 9998 b 0
  have e3 := eqIn_u64 w 9998 c 0
  have e4 := eqIn_u64 w 9998 d 0
  show (Op.equalIn (9999 + 1) _ _ _).run _ _ = _
  unfold Op.equalIn
  simp only [Sem.run_bind, run_underlying Try.underlying64, Result.andThen_ok]
  simp [hs]
  simp [show List.range' 0 4 = [0, 1, 2, 3] from rfl, hs, h0, h1, h2, h3, k0, k1, k2, k3, e1, e2, e3, e4]
  by_cases ha : a = 0 <;> simp [ha, h0, h1, h2, h3, k0, k1, k2, k3, e1, e2, e3, e4]
  by_cases hb : b = 0 <;> simp [hb, h0, h1, h2, h3, k0, k1, k2, k3, e1, e2, e3, e4]
  by_cases hc : c = 0 <;> simp [hc, h0, h1, h2, h3, k0, k1, k2, k3, e1, e2, e3, e4]
  by_cases hd : d = 0 <;> simp [hd, h0, h1, h2, h3, k0, k1, k2, k3, e1, e2, e3, e4]

set_option maxRecDepth 100000 in
set_option maxHeartbeats 4000000 in
theorem Safe_no (A1 A2 A3 : Option Addr) (c1 c2 c3 : Nat) (xs ys : List Int) (rs : List Bool) (T : Int) (m : Nat) (w : World) (h : InMem w A1 A2 A3 xs ys rs) (hc : lruChk xs ys rs = 0) (ht : tgtB T = true) (hm9 : m ≤ 1000) (hno : ∀ f ∈ (runE T xs ys rs m).xs ++ (runE T xs ys rs m).ys, f ∉ (runE T xs ys rs m).mv) (hmv : ∀ f ∈ (runE T xs ys rs m).mv, 0 ≤ f ∧ f < 256) :
    Calls Try.prog 25 #[.agg #[.slice A1 xs.length c1, .slice A2 ys.length c2, .slice A3 rs.length c3], .int .i64 T, .int .i64 m] w (VPost (srt ((runE T xs ys rs m).xs ++ (runE T xs ys rs m).ys), 0) w) := by
  have HM := Lib.hid h; have HC := Lib.hid hc; have HT := Lib.hid ht; have HN := Lib.hid (cnt_ok hm9)
  have HZ : Hid (sndS xs ys rs true = 0) := by show _ = _; unfold sndS; rw [if_neg (by simpa using hc)]; rfl
  clear h hc ht
  obtain ⟨⟨wh, fr, us, vs, ss, mw⟩, hE⟩ : ∃ R, runE T xs ys rs m = R := ⟨_, rfl⟩
  rw [hE] at hno hmv ⊢
  dsimp only at hno hmv ⊢
  have HE := Lib.hid hE; have HNO := Lib.hid hno; have HMV := Lib.hid hmv
  clear hE hno hmv
  obtain ⟨X, hX⟩ : ∃ X, w.alloc (.cells #[.slice A1 xs.length c1, .slice A2 ys.length c2, .slice A3 rs.length c3] 25) = X := ⟨_, rfl⟩
  have k1 : Blk X w.heap.size 25 #[.slice A1 xs.length c1, .slice A2 ys.length c2, .slice A3 rs.length c3] := by rw [← hX]; exact Blk.new_ rfl rfl
  have HBX : Hid (Below w.heap.size w X) := by show Below _ _ _; rw [← hX]; exact (Below.refl _ _).alloc (Nat.le_refl _) _
  go_enter Try.func25, Try.ntmps25
  go_wp2_with fail
  (try rw [hX])
  clear hX
  refine wp_region_chain2 [1, 0, 1, 0, 0, 1, 0, 1, 0] [[], [], [], [], [], [], [], [], []] [.kn ?fan0, .is ?fan1, .kn (.bool true), .is ?fan3, .is ?fan4, .kn (.bool true), .is ?fan6, .kn (.int .i64 0), .is ?fan8] (by rfl) (by rfl) (by kernel_rfl) (by kernel_rfl) (by kernel_rfl) (by kernel_rfl) (by kernel_rfl) (by kernel_rfl) (lts_kn (lts_is (lts_kn (lts_is (lts_is (lts_kn (lts_is (lts_kn (lts_is lts_nil))))))))) (fun W0 hb0 hz0 => ?_)
  rotate_left 6
  rw [show lateIdx [1, 0, 1, 0, 0, 1, 0, 1, 0] = [] from by rfl]
  have hb1 := HBX.out.trans (hb0.mono HBX.out.size)
  have kW := k1.below_ hb0 k1.lt
  have zW := kW.lt
  have p0 : W0.cell? ⟨w.heap.size, 0, none⟩ = some (.slice A1 xs.length c1) := (kW.cell_ 0).trans (by simp)
  have p1 : W0.cell? ⟨w.heap.size, 1, none⟩ = some (.slice A2 ys.length c2) := (kW.cell_ 1).trans (by simp)
  have p2 : W0.cell? ⟨w.heap.size, 2, none⟩ = some (.slice A3 rs.length c3) := (kW.cell_ 2).trans (by simp)
  refine chn_kn (stp_take (by rfl) ?yan0) ?ran0
  case yan0 =>
    intro w hbw hd
    have r0 := cell_keep hbw p0 zW
    have r1 := cell_keep hbw p1 zW
    have r2 := cell_keep hbw p2 zW
    clear hd
    go_simp
    first | done | with_reducible rfl
  (try simp only [Act.put, List.setIfInBounds_toArray, List.set_cons_zero, List.set_cons_succ, List.nil_append, List.cons_append, Nat.reduceAdd])
  refine chn_is (stp_pure (by rfl) ?yan1) ?ran1
  case yan1 =>
    intro w
    go_simp
    first | done | with_reducible rfl
  (try simp only [Act.put, List.setIfInBounds_toArray, List.set_cons_zero, List.set_cons_succ, List.nil_append, List.cons_append, Nat.reduceAdd])
  refine chn_kn ?san2 ?ran2
  case san2 =>
    intro w hbw hd K Q' hK
    clear hd
    go_simp
    refine (isTarget_any T _).mono ?_
    rw [HT.out]
    rintro e y ⟨rfl, rfl⟩
    go_wp2_with fail
    refine hK.out (.bool true) _ _ ?_ ?_ rfl
    · (simp only [Act.put, List.setIfInBounds_toArray, List.set_cons_zero, List.set_cons_succ, List.nil_append, List.cons_append, Nat.reduceAdd])
    · exact (by repeat' (first | with_reducible exact Below.refl _ _ | with_reducible assumption | with_reducible apply Below.drew | with_reducible apply below_drewN | with_reducible apply Below.alloc | with_reducible apply Below.setCell | (with_reducible refine Below.trans ?_ (Below.mono (by assumption) ?_)) | (simp; done) | (simp; omega) | omega | with_reducible apply le_size_alloc | with_reducible apply le_size_drewN | with_reducible apply le_size_drew | with_reducible apply le_size_setCell | with_reducible refine Nat.le_trans ?_ (Below.size (by assumption))))
  (try simp only [Act.put, List.setIfInBounds_toArray, List.set_cons_zero, List.set_cons_succ, List.nil_append, List.cons_append, Nat.reduceAdd])
  refine chn_is (stp_pure (by rfl) ?yan3) ?ran3
  case yan3 =>
    intro w
    go_simp
    first | done | with_reducible rfl
  (try simp only [Act.put, List.setIfInBounds_toArray, List.set_cons_zero, List.set_cons_succ, List.nil_append, List.cons_append, Nat.reduceAdd])
  refine chn_is (stp_pure (by rfl) ?yan4) ?ran4
  case yan4 =>
    intro w
    go_simp
    first | done | with_reducible rfl
  (try simp only [Act.put, List.setIfInBounds_toArray, List.set_cons_zero, List.set_cons_succ, List.nil_append, List.cons_append, Nat.reduceAdd])
  refine chn_kn ?san5 ?ran5
  case san5 =>
    intro w hbw hd K Q' hK
    clear hd
    go_simp
    refine (isCount_any m _).mono ?_
    rw [HN.out]
    rintro e y ⟨rfl, rfl⟩
    go_wp2_with fail
    refine hK.out (.bool true) _ _ ?_ ?_ rfl
    · (simp only [Act.put, List.setIfInBounds_toArray, List.set_cons_zero, List.set_cons_succ, List.nil_append, List.cons_append, Nat.reduceAdd])
    · exact (by repeat' (first | with_reducible exact Below.refl _ _ | with_reducible assumption | with_reducible apply Below.drew | with_reducible apply below_drewN | with_reducible apply Below.alloc | with_reducible apply Below.setCell | (with_reducible refine Below.trans ?_ (Below.mono (by assumption) ?_)) | (simp; done) | (simp; omega) | omega | with_reducible apply le_size_alloc | with_reducible apply le_size_drewN | with_reducible apply le_size_drew | with_reducible apply le_size_setCell | with_reducible refine Nat.le_trans ?_ (Below.size (by assumption))))
  (try simp only [Act.put, List.setIfInBounds_toArray, List.set_cons_zero, List.set_cons_succ, List.nil_append, List.cons_append, Nat.reduceAdd])
  refine chn_is (stp_pure (by rfl) ?yan6) ?ran6
  case yan6 =>
    intro w
    go_simp
    first | done | with_reducible rfl
  (try simp only [Act.put, List.setIfInBounds_toArray, List.set_cons_zero, List.set_cons_succ, List.nil_append, List.cons_append, Nat.reduceAdd])
  refine chn_kn ?san7 ?ran7
  case san7 =>
    intro w hbw hd K Q' hK
    clear hd
    go_simp
    refine (sound_any A1 A2 A3 c1 c2 c3 xs ys rs true _ (HM.out.ext (hb1.trans (hbw.mono hb1.size)))).mono ?_
    rw [HZ.out]
    rintro e y ⟨rfl, hy⟩
    go_wp2_with fail
    refine hK.out (.int .i64 0) _ _ ?_ ?_ rfl
    · (simp only [Act.put, List.setIfInBounds_toArray, List.set_cons_zero, List.set_cons_succ, List.nil_append, List.cons_append, Nat.reduceAdd])
    · exact (by repeat' (first | with_reducible exact Below.refl _ _ | with_reducible assumption | with_reducible apply Below.drew | with_reducible apply below_drewN | with_reducible apply Below.alloc | with_reducible apply Below.setCell | (with_reducible refine Below.trans ?_ (Below.mono (by assumption) ?_)) | (simp; done) | (simp; omega) | omega | with_reducible apply le_size_alloc | with_reducible apply le_size_drewN | with_reducible apply le_size_drew | with_reducible apply le_size_setCell | with_reducible refine Nat.le_trans ?_ (Below.size (by assumption))))
  (try simp only [Act.put, List.setIfInBounds_toArray, List.set_cons_zero, List.set_cons_succ, List.nil_append, List.cons_append, Nat.reduceAdd])
  refine chn_is (stp_pure (by rfl) ?yan8) ?ran8
  case yan8 =>
    intro w
    go_simp
    first | done | with_reducible rfl
  (try simp only [Act.put, List.setIfInBounds_toArray, List.set_cons_zero, List.set_cons_succ, List.nil_append, List.cons_append, Nat.reduceAdd])
  refine chn_end (fun wz lo hi hbz hd hR => ?_)
  have HB4 := Lib.hid (hb1.trans (hbz.mono hb1.size))
  have K1 := Lib.hid (kW.below_ hbz zW)
  have HX4 := Lib.hid (hb0.trans (hbz.mono hb0.size))
  clear hd hR p0 p1 p2 zW kW hb1 k1 hb0 hbz hz0 HBX
  refine late_none ?_
  obtain ⟨x4, rfl⟩ : ∃ x4 : World, x4 = wz := ⟨_, rfl⟩
  have q0 : x4.cell? ⟨w.heap.size, 0, none⟩ = some (.slice A1 xs.length c1) := (K1.out.cell_ 0).trans (by simp)
  have q1 : x4.cell? ⟨w.heap.size, 1, none⟩ = some (.slice A2 ys.length c2) := (K1.out.cell_ 1).trans (by simp)
  have q2 : x4.cell? ⟨w.heap.size, 2, none⟩ = some (.slice A3 rs.length c3) := (K1.out.cell_ 2).trans (by simp)
  go_wp2_with fail
  refine (run_any A1 A2 A3 c1 c2 c3 xs ys rs T m x4 (HM.out.ext HB4.out) HC.out hm9).mono ?_
  rw [HE.out]
  rintro e x5 ⟨B1, B2, B3, d1, d2, d3, A, c, rfl, hmb, hnb, hcb, hsl, hgl, hb5⟩
  dsimp only at hmb hnb hcb ⊢
  have HMB := Lib.hid hmb; have HCB := Lib.hid hcb
  have hlb := chk_len hcb
  have hvb := valid_of_chk hcb
  have hrg : ∀ f ∈ us ++ vs, 0 ≤ f ∧ f < 256 := fun f hf => by have := hvb.range f hf; have := hvb.hi; omega
  have HRG := Lib.hid hrg
  have HB5 := Lib.hid (HB4.out.trans (hb5.mono HB4.out.size))
  clear hmb hnb hsl hgl hb5 q0 q1 q2 K1 HB4 hcb hvb hrg
  go_wp2_with fail
  obtain ⟨Y, hY⟩ : ∃ Y, (x5.alloc (.cells #[.slice B1 us.length d1, .slice B2 vs.length d2, .slice B3 ss.length d3, .int .i64 T, .int .i64 fr, .int .u64 (wrd 0 mw), .int .u64 (wrd 1 mw), .int .u64 (wrd 2 mw), .int .u64 (wrd 3 mw)] 66)).alloc (.cells #[.slice B1 us.length d1, .slice B2 vs.length d2] 22) = Y := ⟨_, rfl⟩
  have bY : Below x5.heap.size x5 Y := by rw [← hY]; exact ((Below.refl _ _).alloc (Nat.le_refl _) _).alloc (by simp) _
  have kw : Blk Y x5.heap.size 66 #[.slice B1 us.length d1, .slice B2 vs.length d2, .slice B3 ss.length d3, .int .i64 T, .int .i64 fr, .int .u64 (wrd 0 mw), .int .u64 (wrd 1 mw), .int .u64 (wrd 2 mw), .int .u64 (wrd 3 mw)] := by rw [← hY]; exact (Blk.new_ rfl rfl).alloc_ _
  have kl : Blk Y (x5.heap.size + 1) 22 #[.slice B1 us.length d1, .slice B2 vs.length d2] := by rw [← hY]; exact Blk.new_ (by simp) rfl
  (try rw [hY])
  refine (concat_two (x5.heap.size + 1) B1 B2 d1 d2 us vs Y kl (HMB.out.a.ext bY) (HMB.out.i.ext bY) (by omega) (by omega)).mono ?_
  rintro e x6 ⟨E, ce, rfl, ho6, hb6⟩
  have KW6 := Lib.hid (kw.below_ hb6 kw.lt)
  have HO6 := Lib.hid ho6
  have bX6 := Lib.hid (bY.trans (hb6.mono bY.size))
  have HB6 := Lib.hid (HB5.out.trans (bX6.out.mono HB5.out.size))
  have hYs := HB5.out.size
  have bYs := bY.size
  clear hY kw kl bY ho6 hb6
  have p5 : x6.cell? ⟨x5.heap.size, 5, none⟩ = some (.int .u64 (wrd 0 mw)) := (KW6.out.cell_ 5).trans (by simp)
  have p6 : x6.cell? ⟨x5.heap.size, 6, none⟩ = some (.int .u64 (wrd 1 mw)) := (KW6.out.cell_ 6).trans (by simp)
  have p7 : x6.cell? ⟨x5.heap.size, 7, none⟩ = some (.int .u64 (wrd 2 mw)) := (KW6.out.cell_ 7).trans (by simp)
  have p8 : x6.cell? ⟨x5.heap.size, 8, none⟩ = some (.int .u64 (wrd 3 mw)) := (KW6.out.cell_ 8).trans (by simp)
  have hen : (us ++ vs).length ≤ 1000 := by rw [List.length_append]; omega
  obtain ⟨ll, hll⟩ : ∃ l, us ++ vs = l := ⟨_, rfl⟩
  rw [hll] at HO6 HRG HNO hen
  rw [hll]
  have HLL := Lib.hid hll
  clear hll
  have hso : ll.length < 4611686018427387904 := by omega
  by_cases hmz : mw = []
  · have hq : ∀ W : World, (Op.equalIn 10000 64 (.agg #[.int .u64 (wrd 0 mw), .int .u64 (wrd 1 mw), .int .u64 (wrd 2 mw), .int .u64 (wrd 3 mw)]) (.agg #[.int .u64 0, .int .u64 0, .int .u64 0, .int .u64 0])).run Try.prog W = .ok true W := by
      intro W; rw [eq_frames, hmz]; rfl
    clear hmz
    go_wp2_with fail
    refine (sort_own Y.heap.size E ce ll x6 HO6.out hso).mono ?_
    rintro e x7 ⟨rfl, ho7, hb7⟩
    go_wp2_with fail
    refine bodyPost_ret (v := .tuple #[.slice E (srt ll).length ce, .int .i64 0]) (by simp [results, Try.results25, go_sem, srt_len]) rfl ?_
    have hll := HLL.out
    clear HLL
    subst hll
    exact ⟨E, ce, rfl, own_sl ho7, HB6.out.trans (hb7.mono (by omega))⟩
  · have hq : ∀ W : World, (Op.equalIn 10000 64 (.agg #[.int .u64 (wrd 0 mw), .int .u64 (wrd 1 mw), .int .u64 (wrd 2 mw), .int .u64 (wrd 3 mw)]) (.agg #[.int .u64 0, .int .u64 0, .int .u64 0, .int .u64 0])).run Try.prog W = .ok false W := by
      intro W; rw [eq_frames]
      by_cases g : wrd 0 mw = 0 ∧ wrd 1 mw = 0 ∧ wrd 2 mw = 0 ∧ wrd 3 mw = 0
      · exact absurd (wrd_zero HMV.out g.1 g.2.1 g.2.2.1 g.2.2.2) hmz
      · congr 1
        rw [Bool.eq_false_iff]
        intro h; apply g
        simpa using h
    go_wp2_with fail
    have hcw : ∀ q : Nat, q < 4 → x6.cell? ⟨x5.heap.size, 5 + q, none⟩ = some (.int .u64 (wrd q mw)) := by
      intro q hq
      have : q = 0 ∨ q = 1 ∨ q = 2 ∨ q = 3 := by omega
      rcases this with rfl | rfl | rfl | rfl <;> assumption
    refine (deleteFunc_none x5.heap.size mw E ce ll x6 (own_sl HO6.out) hen hcw HRG.out (fun f hf => (HMV.out f hf).1) HNO.out).mono ?_
    rintro e x7 ⟨rfl, rfl⟩
    go_wp2_with fail
    refine (sort_own Y.heap.size E ce ll x6 HO6.out hso).mono ?_
    rintro e x7 ⟨rfl, ho7, hb7⟩
    go_wp2_with fail
    refine bodyPost_ret (v := .tuple #[.slice E (srt ll).length ce, .int .i64 0]) (by simp [results, Try.results25, go_sem, srt_len]) rfl ?_
    have hll := HLL.out
    clear HLL
    subst hll
    exact ⟨E, ce, rfl, own_sl ho7, HB6.out.trans (hb7.mono (by omega))⟩
end Go.Proofs.Ytiobbdfkimpfbaa
