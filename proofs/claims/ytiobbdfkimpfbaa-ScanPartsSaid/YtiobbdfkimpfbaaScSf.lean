/- scan.Safe, whatever is struck. Written by gen_scsf.py out of XScY.src. -/
import Derived.Test.YtiobbdfkimpfbaaMgE
import Derived.Test.YtiobbdfkimpfbaaScDF
import Derived.Test.YtiobbdfkimpfbaaScPl
namespace Go.Proofs.Ytiobbdfkimpfbaa
set_option linter.unusedSimpArgs false
set_option linter.unusedVariables false
open Go.RowKit Go.Maps

set_option maxRecDepth 100000 in
set_option maxHeartbeats 4000000 in
theorem Safe_ok (A1 A2 A3 : Option Addr) (c1 c2 c3 : Nat) (xs ys : List Int) (rs : List Bool) (T : Int) (m : Nat) (w : World) (h : InMem w A1 A2 A3 xs ys rs) (hc : lruChk xs ys rs = 0) (ht : tgtB T = true) (hm9 : m ≤ 1000) :
    Calls Try.prog 25 #[.agg #[.slice A1 xs.length c1, .slice A2 ys.length c2, .slice A3 rs.length c3], .int .i64 T, .int .i64 m] w (VPost (srt (kep (runE T xs ys rs m).mv ((runE T xs ys rs m).xs ++ (runE T xs ys rs m).ys)), 0) w) := by
  have hmv : ∀ f ∈ (runE T xs ys rs m).mv, 0 ≤ f ∧ f < 256 := fun f hf => sw_mov (T := T) m xs ys rs hc f (((runE_sw hc m).2.2.2.1 f).1 hf)
  have HM := Lib.hid h; have HC := Lib.hid hc; have HT := Lib.hid ht; have HN := Lib.hid (cnt_ok hm9)
  have HZ : Hid (sndS xs ys rs true = 0) := by show _ = _; unfold sndS; rw [if_neg (by simpa using hc)]; rfl
  clear h hc ht
  obtain ⟨⟨wh, fr, us, vs, ss, mw⟩, hE⟩ : ∃ R, runE T xs ys rs m = R := ⟨_, rfl⟩
  rw [hE] at hmv ⊢
  dsimp only at hmv ⊢
  have HE := Lib.hid hE; have HMV := Lib.hid hmv
  clear hE hmv
  obtain ⟨X, hX⟩ : ∃ X, w.alloc (.cells #[.slice A1 xs.length c1, .slice A2 ys.length c2, .slice A3 rs.length c3] 25) = X := ⟨_, rfl⟩
  have k1 : Blk X w.heap.size 25 #[.slice A1 xs.length c1, .slice A2 ys.length c2, .slice A3 rs.length c3] := by rw [← hX]; exact Blk.new_ rfl rfl
  have HBX : Hid (Below w.heap.size w X) := by show Below _ _ _; rw [← hX]; exact (Below.refl _ _).alloc (Nat.le_refl _) _
  go_enter Try.func25, Try.ntmps25
  go_wp2_with fail
  (try rw [hX])
  clear hX
  refine wp_region_chain2 [1, 0, 1, 0, 0, 1, 0, 1, 0] [[], [], [], [], [], [], [], [], []] [.kn ?fan0, .is ?fan1, .kn (.bool true), .is ?fan3, .is ?fan4, .kn (.bool true), .is ?fan6, .kn (.int .i64 0), .is ?fan8] (by rfl) (by rfl) (by kernel_rfl) (by kernel_rfl) (by kernel_rfl) (by kernel_rfl) (by kernel_rfl) (by kernel_rfl) (lts_kn (lts_is (lts_kn (lts_is (lts_is (lts_kn (lts_is (lts_kn (lts_is lts_nil))))))))) (fun W0 hb0 hz0 => ?_)
  rotate_left 6
  rw [show lateIdx [1, 0, 1, 0, 0, 1, 0, 1, 0] = [] from by rfl]
  have hb1 := HBX.out.trans (hb0.mono HBX.out.size)
  have kW := k1.below_ hb0 k1.lt
  have zW := kW.lt
  have p0 : W0.cell? ⟨w.heap.size, 0, none⟩ = some (.slice A1 xs.length c1) := (kW.cell_ 0).trans (by simp)
  have p1 : W0.cell? ⟨w.heap.size, 1, none⟩ = some (.slice A2 ys.length c2) := (kW.cell_ 1).trans (by simp)
  have p2 : W0.cell? ⟨w.heap.size, 2, none⟩ = some (.slice A3 rs.length c3) := (kW.cell_ 2).trans (by simp)
  refine chn_kn (stp_take (by rfl) ?yan0) ?ran0
  case yan0 =>
    intro w hbw hd
    have r0 := cell_keep hbw p0 zW
    have r1 := cell_keep hbw p1 zW
    have r2 := cell_keep hbw p2 zW
    clear hd
    go_simp
    first | done | with_reducible rfl
  (try simp only [Act.put, List.setIfInBounds_toArray, List.set_cons_zero, List.set_cons_succ, List.nil_append, List.cons_append, Nat.reduceAdd])
  refine chn_is (stp_pure (by rfl) ?yan1) ?ran1
  case yan1 =>
    intro w
    go_simp
    first | done | with_reducible rfl
  (try simp only [Act.put, List.setIfInBounds_toArray, List.set_cons_zero, List.set_cons_succ, List.nil_append, List.cons_append, Nat.reduceAdd])
  refine chn_kn ?san2 ?ran2
  case san2 =>
    intro w hbw hd K Q' hK
    clear hd
    go_simp
    refine (isTarget_any T _).mono ?_
    rw [HT.out]
    rintro e y ⟨rfl, rfl⟩
    go_wp2_with fail
    refine hK.out (.bool true) _ _ ?_ ?_ rfl
    · (simp only [Act.put, List.setIfInBounds_toArray, List.set_cons_zero, List.set_cons_succ, List.nil_append, List.cons_append, Nat.reduceAdd])
    · exact (by repeat' (first | with_reducible exact Below.refl _ _ | with_reducible assumption | with_reducible apply Below.drew | with_reducible apply below_drewN | with_reducible apply Below.alloc | with_reducible apply Below.setCell | (with_reducible refine Below.trans ?_ (Below.mono (by assumption) ?_)) | (simp; done) | (simp; omega) | omega | with_reducible apply le_size_alloc | with_reducible apply le_size_drewN | with_reducible apply le_size_drew | with_reducible apply le_size_setCell | with_reducible refine Nat.le_trans ?_ (Below.size (by assumption))))
  (try simp only [Act.put, List.setIfInBounds_toArray, List.set_cons_zero, List.set_cons_succ, List.nil_append, List.cons_append, Nat.reduceAdd])
  refine chn_is (stp_pure (by rfl) ?yan3) ?ran3
  case yan3 =>
    intro w
    go_simp
    first | done | with_reducible rfl
  (try simp only [Act.put, List.setIfInBounds_toArray, List.set_cons_zero, List.set_cons_succ, List.nil_append, List.cons_append, Nat.reduceAdd])
  refine chn_is (stp_pure (by rfl) ?yan4) ?ran4
  case yan4 =>
    intro w
    go_simp
    first | done | with_reducible rfl
  (try simp only [Act.put, List.setIfInBounds_toArray, List.set_cons_zero, List.set_cons_succ, List.nil_append, List.cons_append, Nat.reduceAdd])
  refine chn_kn ?san5 ?ran5
  case san5 =>
    intro w hbw hd K Q' hK
    clear hd
    go_simp
    refine (isCount_any m _).mono ?_
    rw [HN.out]
    rintro e y ⟨rfl, rfl⟩
    go_wp2_with fail
    refine hK.out (.bool true) _ _ ?_ ?_ rfl
    · (simp only [Act.put, List.setIfInBounds_toArray, List.set_cons_zero, List.set_cons_succ, List.nil_append, List.cons_append, Nat.reduceAdd])
    · exact (by repeat' (first | with_reducible exact Below.refl _ _ | with_reducible assumption | with_reducible apply Below.drew | with_reducible apply below_drewN | with_reducible apply Below.alloc | with_reducible apply Below.setCell | (with_reducible refine Below.trans ?_ (Below.mono (by assumption) ?_)) | (simp; done) | (simp; omega) | omega | with_reducible apply le_size_alloc | with_reducible apply le_size_drewN | with_reducible apply le_size_drew | with_reducible apply le_size_setCell | with_reducible refine Nat.le_trans ?_ (Below.size (by assumption))))
  (try simp only [Act.put, List.setIfInBounds_toArray, List.set_cons_zero, List.set_cons_succ, List.nil_append, List.cons_append, Nat.reduceAdd])
  refine chn_is (stp_pure (by rfl) ?yan6) ?ran6
  case yan6 =>
    intro w
    go_simp
    first | done | with_reducible rfl
  (try simp only [Act.put, List.setIfInBounds_toArray, List.set_cons_zero, List.set_cons_succ, List.nil_append, List.cons_append, Nat.reduceAdd])
  refine chn_kn ?san7 ?ran7
  case san7 =>
    intro w hbw hd K Q' hK
    clear hd
    go_simp
    refine (sound_any A1 A2 A3 c1 c2 c3 xs ys rs true _ (HM.out.ext (hb1.trans (hbw.mono hb1.size)))).mono ?_
    rw [HZ.out]
    rintro e y ⟨rfl, hy⟩
    go_wp2_with fail
    refine hK.out (.int .i64 0) _ _ ?_ ?_ rfl
    · (simp only [Act.put, List.setIfInBounds_toArray, List.set_cons_zero, List.set_cons_succ, List.nil_append, List.cons_append, Nat.reduceAdd])
    · exact (by repeat' (first | with_reducible exact Below.refl _ _ | with_reducible assumption | with_reducible apply Below.drew | with_reducible apply below_drewN | with_reducible apply Below.alloc | with_reducible apply Below.setCell | (with_reducible refine Below.trans ?_ (Below.mono (by assumption) ?_)) | (simp; done) | (simp; omega) | omega | with_reducible apply le_size_alloc | with_reducible apply le_size_drewN | with_reducible apply le_size_drew | with_reducible apply le_size_setCell | with_reducible refine Nat.le_trans ?_ (Below.size (by assumption))))
  (try simp only [Act.put, List.setIfInBounds_toArray, List.set_cons_zero, List.set_cons_succ, List.nil_append, List.cons_append, Nat.reduceAdd])
  refine chn_is (stp_pure (by rfl) ?yan8) ?ran8
  case yan8 =>
    intro w
    go_simp
    first | done | with_reducible rfl
  (try simp only [Act.put, List.setIfInBounds_toArray, List.set_cons_zero, List.set_cons_succ, List.nil_append, List.cons_append, Nat.reduceAdd])
  refine chn_end (fun wz lo hi hbz hd hR => ?_)
  have HB4 := Lib.hid (hb1.trans (hbz.mono hb1.size))
  have K1 := Lib.hid (kW.below_ hbz zW)
  have HX4 := Lib.hid (hb0.trans (hbz.mono hb0.size))
  clear hd hR p0 p1 p2 zW kW hb1 k1 hb0 hbz hz0 HBX
  refine late_none ?_
  obtain ⟨x4, rfl⟩ : ∃ x4 : World, x4 = wz := ⟨_, rfl⟩
  have q0 : x4.cell? ⟨w.heap.size, 0, none⟩ = some (.slice A1 xs.length c1) := (K1.out.cell_ 0).trans (by simp)
  have q1 : x4.cell? ⟨w.heap.size, 1, none⟩ = some (.slice A2 ys.length c2) := (K1.out.cell_ 1).trans (by simp)
  have q2 : x4.cell? ⟨w.heap.size, 2, none⟩ = some (.slice A3 rs.length c3) := (K1.out.cell_ 2).trans (by simp)
  go_wp2_with fail
  refine (run_any A1 A2 A3 c1 c2 c3 xs ys rs T m x4 (HM.out.ext HB4.out) HC.out hm9).mono ?_
  rw [HE.out]
  rintro e x5 ⟨B1, B2, B3, d1, d2, d3, A, c, rfl, hmb, hnb, hcb, hsl, hgl, hb5⟩
  dsimp only at hmb hnb hcb ⊢
  have HMB := Lib.hid hmb; have HCB := Lib.hid hcb
  have hlb := chk_len hcb
  have hvb := valid_of_chk hcb
  have hrg : ∀ f ∈ us ++ vs, 0 ≤ f ∧ f < 256 := fun f hf => by have := hvb.range f hf; have := hvb.hi; omega
  have HRG := Lib.hid hrg
  have HB5 := Lib.hid (HB4.out.trans (hb5.mono HB4.out.size))
  clear hmb hnb hsl hgl hb5 q0 q1 q2 K1 HB4 hcb hvb hrg
  go_wp2_with fail
  obtain ⟨Y, hY⟩ : ∃ Y, (x5.alloc (.cells #[.slice B1 us.length d1, .slice B2 vs.length d2, .slice B3 ss.length d3, .int .i64 T, .int .i64 fr, .int .u64 (wrd 0 mw), .int .u64 (wrd 1 mw), .int .u64 (wrd 2 mw), .int .u64 (wrd 3 mw)] 66)).alloc (.cells #[.slice B1 us.length d1, .slice B2 vs.length d2] 22) = Y := ⟨_, rfl⟩
  have bY : Below x5.heap.size x5 Y := by rw [← hY]; exact ((Below.refl _ _).alloc (Nat.le_refl _) _).alloc (by simp) _
  have kw : Blk Y x5.heap.size 66 #[.slice B1 us.length d1, .slice B2 vs.length d2, .slice B3 ss.length d3, .int .i64 T, .int .i64 fr, .int .u64 (wrd 0 mw), .int .u64 (wrd 1 mw), .int .u64 (wrd 2 mw), .int .u64 (wrd 3 mw)] := by rw [← hY]; exact (Blk.new_ rfl rfl).alloc_ _
  have kl : Blk Y (x5.heap.size + 1) 22 #[.slice B1 us.length d1, .slice B2 vs.length d2] := by rw [← hY]; exact Blk.new_ (by simp) rfl
  (try rw [hY])
  refine (concat_two (x5.heap.size + 1) B1 B2 d1 d2 us vs Y kl (HMB.out.a.ext bY) (HMB.out.i.ext bY) (by omega) (by omega)).mono ?_
  rintro e x6 ⟨E, ce, rfl, ho6, hb6⟩
  have KW6 := Lib.hid (kw.below_ hb6 kw.lt)
  have HO6 := Lib.hid ho6
  have bX6 := Lib.hid (bY.trans (hb6.mono bY.size))
  have HB6 := Lib.hid (HB5.out.trans (bX6.out.mono HB5.out.size))
  have hYs := HB5.out.size
  have bYs := bY.size
  have kYl := kl.lt
  clear hY kw kl bY ho6 hb6
  have p5 : x6.cell? ⟨x5.heap.size, 5, none⟩ = some (.int .u64 (wrd 0 mw)) := (KW6.out.cell_ 5).trans (by simp)
  have p6 : x6.cell? ⟨x5.heap.size, 6, none⟩ = some (.int .u64 (wrd 1 mw)) := (KW6.out.cell_ 6).trans (by simp)
  have p7 : x6.cell? ⟨x5.heap.size, 7, none⟩ = some (.int .u64 (wrd 2 mw)) := (KW6.out.cell_ 7).trans (by simp)
  have p8 : x6.cell? ⟨x5.heap.size, 8, none⟩ = some (.int .u64 (wrd 3 mw)) := (KW6.out.cell_ 8).trans (by simp)
  have hen : (us ++ vs).length ≤ 1000 := by rw [List.length_append]; omega
  obtain ⟨ll, hll⟩ : ∃ l, us ++ vs = l := ⟨_, rfl⟩
  rw [hll] at HO6 HRG hen
  rw [hll]
  have HLL := Lib.hid hll
  clear hll
  obtain ⟨kk, hkk⟩ : ∃ l, kep mw ll = l := ⟨_, rfl⟩
  have HKK := Lib.hid hkk
  have hkl : kk.length ≤ ll.length := by rw [← hkk]; exact kep_len _ _
  clear hkk
  have hsk : kk.length < 4611686018427387904 := by omega
  have hso : ll.length < 4611686018427387904 := by omega
  by_cases hmz : mw = []
  · obtain rfl : kk = ll := by rw [← HKK.out, hmz]; exact kep_all (by simp)
    have hq : ∀ W : World, (Op.equalIn 10000 64 (.agg #[.int .u64 (wrd 0 mw), .int .u64 (wrd 1 mw), .int .u64 (wrd 2 mw), .int .u64 (wrd 3 mw)]) (.agg #[.int .u64 0, .int .u64 0, .int .u64 0, .int .u64 0])).run Try.prog W = .ok true W := by
      intro W; rw [eq_frames, hmz]; rfl
    clear hmz
    go_wp2_with fail
    refine (sort_own Y.heap.size E ce _ x6 HO6.out hso).mono ?_
    rintro e x7 ⟨rfl, ho7, hb7⟩
    go_wp2_with fail
    refine bodyPost_ret (v := .tuple #[.slice E (srt kk).length ce, .int .i64 0]) (by simp [results, Try.results25, go_sem, srt_len]) rfl ?_
    show VPost (srt (kep mw (us ++ vs)), 0) _ _ _
    rw [HLL.out, HKK.out]
    exact ⟨E, ce, rfl, own_sl ho7, HB6.out.trans (hb7.mono (by omega))⟩
  · have hq : ∀ W : World, (Op.equalIn 10000 64 (.agg #[.int .u64 (wrd 0 mw), .int .u64 (wrd 1 mw), .int .u64 (wrd 2 mw), .int .u64 (wrd 3 mw)]) (.agg #[.int .u64 0, .int .u64 0, .int .u64 0, .int .u64 0])).run Try.prog W = .ok false W := by
      intro W; rw [eq_frames]
      by_cases g : wrd 0 mw = 0 ∧ wrd 1 mw = 0 ∧ wrd 2 mw = 0 ∧ wrd 3 mw = 0
      · exact absurd (wrd_zero HMV.out g.1 g.2.1 g.2.2.1 g.2.2.2) hmz
      · congr 1
        rw [Bool.eq_false_iff]
        intro h; apply g
        simpa using h
    go_wp2_with fail
    have hcw : ∀ q : Nat, q < 4 → x6.cell? ⟨x5.heap.size, 5 + q, none⟩ = some (.int .u64 (wrd q mw)) := by
      intro q hq
      have : q = 0 ∨ q = 1 ∨ q = 2 ∨ q = 3 := by omega
      rcases this with rfl | rfl | rfl | rfl <;> assumption
    refine (deleteFunc_any x5.heap.size Y.heap.size mw E ce ll x6 HO6.out (by omega) hen hcw HRG.out (fun f hf => (HMV.out f hf).1)).mono ?_
    rw [HKK.out]
    rintro e x7 ⟨rfl, ho7, hb7⟩
    have HB7 := Lib.hid (HB6.out.trans (hb7.mono (by omega)))
    have HO7 := Lib.hid ho7
    clear ho7 hb7
    go_wp2_with fail
    refine (sort_own Y.heap.size E ce kk x7 HO7.out hsk).mono ?_
    rintro e x8 ⟨rfl, ho8, hb8⟩
    go_wp2_with fail
    refine bodyPost_ret (v := .tuple #[.slice E (srt kk).length ce, .int .i64 0]) (by simp [results, Try.results25, go_sem, srt_len]) rfl ?_
    show VPost (srt (kep mw (us ++ vs)), 0) _ _ _
    rw [HLL.out, HKK.out]
    exact ⟨E, ce, rfl, own_sl ho8, HB7.out.trans (hb8.mono (by omega))⟩
end Go.Proofs.Ytiobbdfkimpfbaa
