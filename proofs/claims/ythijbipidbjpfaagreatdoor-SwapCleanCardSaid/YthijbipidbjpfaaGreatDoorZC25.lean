import Derived.Test.YthijbipidbjpfaaGreatDoorZC22
import Derived.Test.YthijbipidbjpfaaGreatDoorZC00
import Derived.Test.YthijbipidbjpfaaGreatDoorZC04
import Derived.Test.YthijbipidbjpfaaGreatDoorZC14
import Derived.Test.YthijbipidbjpfaaGreatDoorZC06
import Derived.Test.YthijbipidbjpfaaGreatDoorZC03
import Derived.Test.YthijbipidbjpfaaGreatDoorZC24
import Derived.Test.YthijbipidbjpfaaGreatDoorZC15
set_option linter.unusedSimpArgs false
set_option linter.unusedVariables false
set_option maxRecDepth 100000
set_option maxHeartbeats 8000000
namespace Go.Proofs.YthijbipidbjpfaaGreatDoor
open Go.RowKit Go.Maps
theorem Blk.setN {w : World} {b c : Nat} {T : TypeId} {cs : Array Value} (k : Blk w b T cs) (hc : b ≠ c) (l : List Value) : Blk (setN w c 0 l) b T cs := by
 have hg := grown_setN w c 0 l
 exact k.kept hg (by simpa using hc)
theorem actW_at {s : Swp} {n : Int} {m : Nat} (hm : n % 1073741824 = (m : Int)) : actW s n =
  if (m : Int) % 8 = 0 ∨ (m : Int) % 8 = 1 then ((wrtW s ((m : Int) / 48 % 40) (1 + (m : Int) / 7680 % 3) (cnW m)).1, (wrtW s ((m : Int) / 48 % 40) (1 + (m : Int) / 7680 % 3) (cnW m)).2.2) else
  if (m : Int) % 8 = 2 then redW s ((m : Int) / 8 % 6) ((m : Int) / 48 % 40) (1 + (m : Int) / 1920 % 4) else if (m : Int) % 8 = 3 then claW s ((m : Int) / 8 % 6) (1 + (m : Int) / 1920 % 4) else
  if (m : Int) % 8 = 4 then ((kilW s (1 + (m : Int) / 1920 % 4)).1, (kilW s (1 + (m : Int) / 1920 % 4)).2.2) else if (m : Int) % 8 = 5 then addW s ((m : Int) / 8 % 6) else if (m : Int) % 8 = 6 then ((unrW s ((m : Int) / 8 % 6)).1, (unrW s ((m : Int) / 8 % 6)).2.2) else
  if 0 < s.dk.jobs.length then ((cmpW s ((m : Int) / 8 % s.dk.jobs.length)).1, (cmpW s ((m : Int) / 8 % s.dk.jobs.length)).2.2) else (s, 0) := by
 unfold actW
 dsimp only
 rw [hm]
theorem step_any (L : Lay) (s : Swp) (n : Int) (w : World) (h : SwR w L s) (hi : Inv6 s) (hz : TZ w) : Calls Tryz.prog 39 #[swV L s, .int .i64 n] w fun e w' => ∃ L', e = .returned (swV L' (stepW s n)) ∧ ((L' = L ∧ stepW s n = s) ∨ SwO w' w.heap.size L' (stepW s n)) ∧ Below w.heap.size w w' := by
 obtain ⟨a0, c0, a1, c1, a2, c2, a3, c3, a4, c4, a5, c5, a6, c6, a7, c7⟩ := L
 have HTZ := Lib.hid hz
 have HW0 : 0 < w.heap.size := hz.pos
 have HS := Lib.hid h
 clear hz h
 have HM := fun w => Lib.hid (Mod_any n 1073741824 w (by omega) (by omega))
 have h0 := Int.emod_nonneg n (show (1073741824 : Int) ≠ 0 by omega)
 have h1 := Int.emod_lt_of_pos n (show (0 : Int) < 1073741824 by omega)
 obtain ⟨m, hm⟩ : ∃ m : Nat, n % 1073741824 = (m : Int) := ⟨(n % 1073741824).toNat, by omega⟩
 rw [hm] at HM h1
 have hm1 : m < 1073741824 := by omega
 have td8 : ((m : Int)).tdiv 8 = ((m / 8 : Nat) : Int) := by rw [Int.tdiv_eq_ediv_of_nonneg (by omega)]; simp
 have td48 : ((m : Int)).tdiv 48 = ((m / 48 : Nat) : Int) := by rw [Int.tdiv_eq_ediv_of_nonneg (by omega)]; simp
 have td1920 : ((m : Int)).tdiv 1920 = ((m / 1920 : Nat) : Int) := by rw [Int.tdiv_eq_ediv_of_nonneg (by omega)]; simp
 have td7680 : ((m : Int)).tdiv 7680 = ((m / 7680 : Nat) : Int) := by rw [Int.tdiv_eq_ediv_of_nonneg (by omega)]; simp
 have tm8 : (((m / 8 : Nat) : Int)).tmod 6 = ((m / 8 % 6 : Nat) : Int) := by rw [Int.tmod_eq_emod_of_nonneg (by omega)]; simp
 have tm48 : (((m / 48 : Nat) : Int)).tmod 40 = ((m / 48 % 40 : Nat) : Int) := by rw [Int.tmod_eq_emod_of_nonneg (by omega)]; simp
 have tm1920 : (((m / 1920 : Nat) : Int)).tmod 4 = ((m / 1920 % 4 : Nat) : Int) := by rw [Int.tmod_eq_emod_of_nonneg (by omega)]; simp
 have tm7680 : (((m / 7680 : Nat) : Int)).tmod 3 = ((m / 7680 % 3 : Nat) : Int) := by rw [Int.tmod_eq_emod_of_nonneg (by omega)]; simp
 have tm1 : ((m : Int)).tmod 8 = ((m % 8 : Nat) : Int) := by rw [Int.tmod_eq_emod_of_nonneg (by omega)]; simp
 have wv0 : IntKind.i64.wrap ((m / 8 : Nat) : Int) = ((m / 8 : Nat) : Int) := by rw [IntKind.wrap_i64]; omega
 have wv1 : IntKind.i64.wrap ((m / 48 : Nat) : Int) = ((m / 48 : Nat) : Int) := by rw [IntKind.wrap_i64]; omega
 have wv2 : IntKind.i64.wrap ((m / 1920 : Nat) : Int) = ((m / 1920 : Nat) : Int) := by rw [IntKind.wrap_i64]; omega
 have wv3 : IntKind.i64.wrap ((m / 7680 : Nat) : Int) = ((m / 7680 : Nat) : Int) := by rw [IntKind.wrap_i64]; omega
 have wv4 : IntKind.i64.wrap ((m / 8 % 6 : Nat) : Int) = ((m / 8 % 6 : Nat) : Int) := by rw [IntKind.wrap_i64]; omega
 have wv5 : IntKind.i64.wrap ((m / 48 % 40 : Nat) : Int) = ((m / 48 % 40 : Nat) : Int) := by rw [IntKind.wrap_i64]; omega
 have wv6 : IntKind.i64.wrap ((m / 1920 % 4 : Nat) : Int) = ((m / 1920 % 4 : Nat) : Int) := by rw [IntKind.wrap_i64]; omega
 have wv7 : IntKind.i64.wrap ((m / 7680 % 3 : Nat) : Int) = ((m / 7680 % 3 : Nat) : Int) := by rw [IntKind.wrap_i64]; omega
 have wv8 : IntKind.i64.wrap ((m % 8 : Nat) : Int) = ((m % 8 : Nat) : Int) := by rw [IntKind.wrap_i64]; omega
 have wv9 : IntKind.i64.wrap (1 + ((m / 1920 % 4 : Nat) : Int)) = (1 + ((m / 1920 % 4 : Nat) : Int)) := by rw [IntKind.wrap_i64]; omega
 have wv10 : IntKind.i64.wrap (1 + ((m / 7680 % 3 : Nat) : Int)) = (1 + ((m / 7680 % 3 : Nat) : Int)) := by rw [IntKind.wrap_i64]; omega
 have Hm := Lib.hid hm
 clear hm h0
 unfold swV swC
 go_enter Tryz.func39, Tryz.ntmps39
 go_upto_region 1 with fail
 obtain ⟨X, hX⟩ : ∃ X, (w.alloc (.cells (zkx s a0 c0 a1 c1 a2 c2 a3 c3 a4 c4 a5 c5 a6 c6 a7 c7).toArray 35)).alloc (.cells zkz.toArray 35) = X := ⟨_, rfl⟩
 have kS := za1 hX
 have kR := za2 hX
 have BX : Below w.heap.size w X := by rw [← hX]; exact zbl
 have hXs : X.heap.size = w.heap.size + 1 + 1 := by rw [← hX]; simp
 (try rw [hX])
 clear hX
 go_wp2_with fail
 refine (HM X).out.mono ?_
 rintro e1 w1 ⟨rfl, rfl⟩
 have zkS := kS.lt
 obtain ⟨q0, q1, q2, q3, q4, q5, q6, q7, q8, q9, q10⟩ := zc11 kS
 go_upto_region 4 with fail
 obtain ⟨w3, hw3⟩ : ∃ V, X.alloc (.cells (zkx s a0 c0 a1 c1 a2 c2 a3 c3 a4 c4 a5 c5 a6 c6 a7 c7).toArray 35) = V := ⟨_, rfl⟩
 have kN : Blk w3 (w.heap.size + 1 + 1) 35 (zkx s a0 c0 a1 c1 a2 c2 a3 c3 a4 c4 a5 c5 a6 c6 a7 c7).toArray := by rw [← hw3, ← hXs]; exact Blk.new_ rfl rfl
 have hb3 := zab hw3
 (try rw [hw3])
 clear hw3 zkS q0 q1 q2 q3 q4 q5 q6 q7 q8 q9 q10
 have B3 := zbt BX hb3
 replace kS := kS.below_ hb3 kS.lt
 replace kR := kR.below_ hb3 kR.lt
 clear hb3 BX hXs
 go_upto_block 0 with fail
 obtain ⟨k, hk⟩ : ∃ k, (m : Int) % 8 = k := ⟨_, rfl⟩
 rw [hk]
 have Hk := Lib.hid hk
 have HT9 : Hid ((m : Int).tdiv 7680 = (m : Int) / 7680 ∧ IntKind.i64.wrap ((m : Int) / 7680) = (m : Int) / 7680 ∧ ((m : Int) / 7680).tmod 3 = (m : Int) / 7680 % 3 ∧ IntKind.i64.wrap ((m : Int) / 7680 % 3) = (m : Int) / 7680 % 3 ∧ IntKind.i64.wrap (1 + (m : Int) / 7680 % 3) = 1 + (m : Int) / 7680 % 3) :=
  ⟨Int.tdiv_eq_ediv_of_nonneg (by omega), by rw [IntKind.wrap_i64]; omega, Int.tmod_eq_emod_of_nonneg (by omega), by rw [IntKind.wrap_i64]; omega, by rw [IntKind.wrap_i64]; omega⟩
 have HT8 : Hid ((m : Int).tdiv 8 = (m : Int) / 8 ∧ IntKind.i64.wrap ((m : Int) / 8) = (m : Int) / 8) := ⟨Int.tdiv_eq_ediv_of_nonneg (by omega), by rw [IntKind.wrap_i64]; omega⟩
 have Hm1 := Lib.hid hm1
 clear hk tm1 wv8 td8 td48 td1920 td7680 tm8 tm48 tm1920 tm7680 wv0 wv1 wv2 wv3 wv4 wv5 wv6 wv7 wv9 wv10 h1 hm1
 go_cut [9] from 25 to 103 (fun v wx => ∃ (T : Swp) (x : Int) (L2 : Lay), v = .int .i64 x ∧ Hid (actW s n = (T, x)) ∧ Blk wx w.heap.size 35 (swC ⟨a0, c0, a1, c1, a2, c2, a3, c3, a4, c4, a5, c5, a6, c6, a7, c7⟩ s).toArray ∧ Blk wx (w.heap.size + 1) 35 zkz.toArray ∧ Blk wx (w.heap.size + 1 + 1) 35 (swC L2 T).toArray ∧ Hid ((L2 = ⟨a0, c0, a1, c1, a2, c2, a3, c3, a4, c4, a5, c5, a6, c6, a7, c7⟩ ∧ T = s) ∨ SwO wx w.heap.size L2 T) ∧ Below w.heap.size w wx)
 case first =>
  go_upto_if 43 with fail
  go_cut [43] from 44 to 45 (fun v wx => v = .bool (decide (k = 0 ∨ k = 1)) ∧ wx = w3)
  case first =>
   by_cases h0 : k = 0
   ·have hk0 : (k == 0) = true := by simpa using h0
    have hd : Hid (decide (k = 0 ∨ k = 1) = true) := by show _ = _; simp [h0]
    clear h0
    go_wp2_with fail
    go_meet
    exact ⟨by rw [hd.out, hk0], rfl⟩
   have hk0 : (k == 0) = false := by simpa using h0
   have hd : Hid (decide (k = 0 ∨ k = 1) = (k == 1)) := by show _ = _; by_cases h1 : k = 1 <;> simp [h0, h1]
   clear h0
   go_wp2_with fail
   go_meet
   exact ⟨by rw [hd.out], rfl⟩
  case rest =>
   obtain ⟨rfl, hwc⟩ := hcut
   have hwc := hwc.symm
   subst hwc
   by_cases h01 : k = 0 ∨ k = 1
   ·rw [decide_eq_true h01]
    obtain ⟨⟨T, z, x⟩, hT⟩ : ∃ q, wrtW s ((m : Int) / 48 % 40) (1 + (m : Int) / 7680 % 3) (cnW m) = q := ⟨_, rfl⟩
    have HA : Hid (actW s n = (T, x)) := by show _ = _; rw [actW_at Hm.out, Hk.out, if_pos h01, hT]
    have hC : ∀ V, Below w3.heap.size w3 V → _ := fun V hV => WriteOut_any ⟨a0, c0, a1, c1, a2, c2, a3, c3, a4, c4, a5, c5, a6, c6, a7, c7⟩ s ((m : Int) / 48 % 40) (1 + (m : Int) / 7680 % 3) (cnW m) V (SwA.of (HS.out.ext (B3.trans (hV.mono B3.size))) hi.ok (by rw [hi.len]; omega)) (HTZ.out.ext HW0 (B3.trans (hV.mono B3.size)))
    rw [hT] at hC
    have HC := Lib.hid hC
    clear hC hT h01
    go_wp2_with fail
    refine zrg [1, 0, 0, 1, 1, 1, 0, 1, 2, 0, 0, 0, 0, 3, 0] [[], [], [], [], [], [], [], [], [], [8], [9], [9], [9], [], [12]] [.kn ?_, .is ?_, .is ?_, .kn ?_, .kn ?_, .kn ?_, .is ?_, .kn (ctV (cnW m)), .has (SwF T [.int .i64 z, .int .i64 x]), .fn [8] fst_, .fn [9] (fun l => tupAt (fst_ l) 0), .fn [9] (fun l => tupAt (fst_ l) 1), .fn [9] (fun l => tupAt (fst_ l) 2), .late, .fn [12] fst_] [13] (lts_kn (lts_is (lts_is (lts_kn (lts_kn (lts_kn (lts_is (lts_kn (lts_has (SwF.lasts T [.int .i64 z, .int .i64 x]) (lts_fn (lts_fn (lts_fn (lts_fn (lts_late (lts_fn lts_nil))))))))))))))) (fun W0 hb0 hz0 => ?_)
    rotate_left 7
    have kW := kS.below_ hb0 kS.lt
    have zW := kW.lt
    obtain ⟨p0, p1, p2, p3, p4, p5, p6, p7, p8, p9, p10⟩ := zc11 kW
    refine zqT (fun w hbw hd => ?_) ?_
    ·have r0 := cell_keep hbw p0 zW
     have r1 := cell_keep hbw p1 zW
     have r2 := cell_keep hbw p2 zW
     have r3 := cell_keep hbw p3 zW
     have r4 := cell_keep hbw p4 zW
     have r5 := cell_keep hbw p5 zW
     have r6 := cell_keep hbw p6 zW
     have r7 := cell_keep hbw p7 zW
     have r8 := cell_keep hbw p8 zW
     have r9 := cell_keep hbw p9 zW
     have r10 := cell_keep hbw p10 zW
     exact zgs
    refine zqp ?_
    refine zqp ?_
    refine zqT (fun w hbw hd => ?_) ?_
    ·obtain ⟨ta, tb, tc, td, te⟩ := HT9.out
     exact zgs
    refine zqT (fun w hbw hd => ?_) ?_
    ·obtain ⟨ta, tb, tc, td, te⟩ := HT9.out
     exact zgs
    refine zqT (fun w hbw hd => ?_) ?_
    ·obtain ⟨ta, tb, tc, td, te⟩ := HT9.out
     exact zgs
    refine zqp ?_
    refine zqc (fun w hbw hd K Q' hK => ?_) ?_
    ·clear hd
     go_simp
     refine (content_any _ _).mono ?_
     rintro e y ⟨rfl, hy⟩
     go_wp2_with fail
     exact hK.out _ _ _ zpt zbm rfl
    refine zqh (fun w hbw hd K Q' hK => ?_) (fun v9a8 => ?_)
    ·clear hd
     go_simp
     refine (HC.out _ (hb0.trans (hbw.mono hb0.size))).mono ?_
     rintro e y ⟨⟨b0, k0, b1, k1, b2, k2, b3, k3, b4, k4, b5, k5, b6, k6, b7, k7⟩, rfl, ho, hy⟩
     unfold swV swC
     go_wp2_with fail
     exact hK.out (.tuple #[.agg (zkx T b0 k0 b1 k1 b2 k2 b3 k3 b4 k4 b5 k5 b6 k6 b7 k7).toArray, .int .i64 z, .int .i64 x]) _ _ zpt zbm ⟨⟨b0, k0, b1, k1, b2, k2, b3, k3, b4, k4, b5, k5, b6, k6, b7, k7⟩, rfl, ho⟩
    refine zqf (v9a8) ?_
    refine zqF (tupAt (v9a8) 0) (fun w0 hd w => ?_) ?_
    ·obtain ⟨_, _, ⟨b0, k0, b1, k1, b2, k2, b3, k3, b4, k4, b5, k5, b6, k6, b7, k7⟩, rfl, _⟩ : ∃ lo hi, SwF T [.int .i64 z, .int .i64 x] v9a8 lo hi w0 := hd 8 _ _ (by kernel_rfl) rfl rfl
     unfold swV swC
     exact zsr
    refine zqF (tupAt (v9a8) 1) (fun w0 hd w => ?_) ?_
    ·obtain ⟨_, _, ⟨b0, k0, b1, k1, b2, k2, b3, k3, b4, k4, b5, k5, b6, k6, b7, k7⟩, rfl, _⟩ : ∃ lo hi, SwF T [.int .i64 z, .int .i64 x] v9a8 lo hi w0 := hd 8 _ _ (by kernel_rfl) rfl rfl
     unfold swV swC
     exact zsr
    refine zqF (tupAt (v9a8) 2) (fun w0 hd w => ?_) ?_
    ·obtain ⟨_, _, ⟨b0, k0, b1, k1, b2, k2, b3, k3, b4, k4, b5, k5, b6, k6, b7, k7⟩, rfl, _⟩ : ∃ lo hi, SwF T [.int .i64 z, .int .i64 x] v9a8 lo hi w0 := hd 8 _ _ (by kernel_rfl) rfl rfl
     unfold swV swC
     exact zsr
    refine zql ?_
    refine zqf (tupAt (v9a8) 2) ?_
    refine chn_end (fun wz lo hi hbz hd hR => ?_)
    obtain ⟨⟨b0, k0, b1, k1, b2, k2, b3, k3, b4, k4, b5, k5, b6, k6, b7, k7⟩, rfl, ho⟩ : SwF T [.int .i64 z, .int .i64 x] v9a8 (lo 8) (hi 8) wz := hd 8 _ _ rfl rfl
    have hlo8 : w.heap.size ≤ lo 8 := Nat.le_trans (Nat.le_trans B3.size hb0.size) (hR.2 8 _ rfl).1
    have B4 : Below w.heap.size w wz := B3.trans ((hb0.trans (hbz.mono hb0.size)).mono B3.size)
    replace kS := kS.below_ (hb0.trans (hbz.mono hb0.size)) kS.lt
    replace kR := kR.below_ (hb0.trans (hbz.mono hb0.size)) kR.lt
    replace kN := kN.below_ (hb0.trans (hbz.mono hb0.size)) kN.lt
    clear hd hR p0 p1 p2 p3 p4 p5 p6 p7 p8 p9 p10
    unfold swV swC
    simp only [tupAt, List.getD_cons_succ, List.getD_cons_zero, Array.getD_eq_getD_getElem?, zy5, zy6, zy7, Option.getD_some]
    have zN := kN.lt
    obtain ⟨t0, t1, t2, t3, t4, t5, t6, t7, t8, t9, t10⟩ := zc11 kN
    obtain ⟨tf0, tf1, tf2, tf3, tf4, tf5, tf6, tf7, tf8, tf9, tf10, -⟩ := zf kN
    refine late_one (by simp only [zy5, zy6, zy7]; rfl) (fun K Q' hK => ?_)
    go_simp
    refine hK.out _ ?_
    clear hK K Q'
    obtain ⟨U, hU⟩ : ∃ U, setN wz (w.heap.size + 1 + 1) 0 (zkx T b0 k0 b1 k1 b2 k2 b3 k3 b4 k4 b5 k5 b6 k6 b7 k7) = U := ⟨_, rfl⟩
    have hUn := zs11 hU
    have bU := zbw hU B4 (by omega)
    replace kS : Blk U w.heap.size 35 (zkx s a0 c0 a1 c1 a2 c2 a3 c3 a4 c4 a5 c5 a6 c6 a7 c7).toArray := by rw [← hU]; exact kS.setN (by omega) _
    replace kR : Blk U (w.heap.size + 1) 35 zkz.toArray := by rw [← hU]; exact kR.setN (by omega) _
    have HSU : Hid ((⟨b0, k0, b1, k1, b2, k2, b3, k3, b4, k4, b5, k5, b6, k6, b7, k7⟩ = (⟨a0, c0, a1, c1, a2, c2, a3, c3, a4, c4, a5, c5, a6, c6, a7, c7⟩ : Lay) ∧ T = s) ∨ SwO U w.heap.size ⟨b0, k0, b1, k1, b2, k2, b3, k3, b4, k4, b5, k5, b6, k6, b7, k7⟩ T) := by subst hU; exact .inr ((ho.base_ hlo8).farT kN _)
    have kU := zsw hU kN
    rw [hUn]
    clear hUn hU
    go_wp2_with fail
    go_meet
    exact ⟨T, _, ⟨b0, k0, b1, k1, b2, k2, b3, k3, b4, k4, b5, k5, b6, k6, b7, k7⟩, rfl, HA, kS, kR, kU, HSU, bU⟩
   rw [decide_eq_false h01]
   by_cases h2 : k = 2
   ·have hk2 : (k == 2) = true := by simpa using h2
    obtain ⟨⟨T, x⟩, hT⟩ : ∃ q, redW s ((m : Int) / 8 % 6) ((m : Int) / 48 % 40) (1 + (m : Int) / 1920 % 4) = q := ⟨_, rfl⟩
    have HA : Hid (actW s n = (T, x)) := by show _ = _; rw [actW_at Hm.out, Hk.out, if_neg h01, if_pos h2, hT]
    have HC := ReadIn_any ⟨a0, c0, a1, c1, a2, c2, a3, c3, a4, c4, a5, c5, a6, c6, a7, c7⟩ s ((m : Int) / 8 % 6) ((m : Int) / 48 % 40) (1 + (m : Int) / 1920 % 4) w3 (SwA.of (HS.out.ext B3) hi.ok (by rw [hi.len]; omega)) (HTZ.out.ext HW0 B3)
    rw [hT] at HC
    dsimp only at HC
    replace HC := Lib.hid HC
    clear hT h2
    have zkS := kS.lt
    obtain ⟨q0, q1, q2, q3, q4, q5, q6, q7, q8, q9, q10⟩ := zc11 kS
    go_wp2_with fail
    refine HC.out.mono ?_
    rintro e4 w4 ⟨⟨b0, k0, b1, k1, b2, k2, b3, k3, b4, k4, b5, k5, b6, k6, b7, k7⟩, rfl, ho, hb4⟩
    clear zkS q0 q1 q2 q3 q4 q5 q6 q7 q8 q9 q10
    have B4 := zbt B3 hb4
    replace kS := kS.below_ hb4 kS.lt
    replace kR := kR.below_ hb4 kR.lt
    replace kN := kN.below_ hb4 kN.lt
    have zN := kN.lt
    obtain ⟨t0, t1, t2, t3, t4, t5, t6, t7, t8, t9, t10⟩ := zc11 kN
    obtain ⟨tf0, tf1, tf2, tf3, tf4, tf5, tf6, tf7, tf8, tf9, tf10, -⟩ := zf kN
    unfold swV swC
    dsimp only
    clear hb4 HC
    go_wp2_with fail
    obtain ⟨U, hU⟩ : ∃ U, setN w4 (w.heap.size + 1 + 1) 0 (zkx T b0 k0 b1 k1 b2 k2 b3 k3 b4 k4 b5 k5 b6 k6 b7 k7) = U := ⟨_, rfl⟩
    have hUn := zs11 hU
    have bU := zbw hU B4 (by omega)
    replace kS : Blk U w.heap.size 35 (zkx s a0 c0 a1 c1 a2 c2 a3 c3 a4 c4 a5 c5 a6 c6 a7 c7).toArray := by rw [← hU]; exact kS.setN (by omega) _
    replace kR : Blk U (w.heap.size + 1) 35 zkz.toArray := by rw [← hU]; exact kR.setN (by omega) _
    have HSU : Hid ((⟨b0, k0, b1, k1, b2, k2, b3, k3, b4, k4, b5, k5, b6, k6, b7, k7⟩ = (⟨a0, c0, a1, c1, a2, c2, a3, c3, a4, c4, a5, c5, a6, c6, a7, c7⟩ : Lay) ∧ T = s) ∨ SwO U w.heap.size ⟨b0, k0, b1, k1, b2, k2, b3, k3, b4, k4, b5, k5, b6, k6, b7, k7⟩ T) := by subst hU; exact .inr ((ho.base_ B3.size).farT kN _)
    have kU := zsw hU kN
    rw [hUn]
    clear hUn hU
    go_meet
    exact ⟨T, _, ⟨b0, k0, b1, k1, b2, k2, b3, k3, b4, k4, b5, k5, b6, k6, b7, k7⟩, rfl, HA, kS, kR, kU, HSU, bU⟩
   have hk2 : (k == 2) = false := by simpa using h2
   by_cases h3 : k = 3
   ·have hk3 : (k == 3) = true := by simpa using h3
    obtain ⟨⟨T, x⟩, hT⟩ : ∃ q, claW s ((m : Int) / 8 % 6) (1 + (m : Int) / 1920 % 4) = q := ⟨_, rfl⟩
    have HA : Hid (actW s n = (T, x)) := by show _ = _; rw [actW_at Hm.out, Hk.out, if_neg h01, if_neg h2, if_pos h3, hT]
    have HC := SwClaim_any ⟨a0, c0, a1, c1, a2, c2, a3, c3, a4, c4, a5, c5, a6, c6, a7, c7⟩ s ((m : Int) / 8 % 6) (1 + (m : Int) / 1920 % 4) w3 (SwA.of (HS.out.ext B3) hi.ok (by rw [hi.len]; omega)) (HTZ.out.ext HW0 B3)
    rw [hT] at HC
    dsimp only at HC
    replace HC := Lib.hid HC
    clear hT h3
    have zkS := kS.lt
    obtain ⟨q0, q1, q2, q3, q4, q5, q6, q7, q8, q9, q10⟩ := zc11 kS
    go_wp2_with fail
    refine HC.out.mono ?_
    rintro e4 w4 ⟨⟨b0, k0, b1, k1, b2, k2, b3, k3, b4, k4, b5, k5, b6, k6, b7, k7⟩, rfl, ho, hb4⟩
    clear zkS q0 q1 q2 q3 q4 q5 q6 q7 q8 q9 q10
    have B4 := zbt B3 hb4
    replace kS := kS.below_ hb4 kS.lt
    replace kR := kR.below_ hb4 kR.lt
    replace kN := kN.below_ hb4 kN.lt
    have zN := kN.lt
    obtain ⟨t0, t1, t2, t3, t4, t5, t6, t7, t8, t9, t10⟩ := zc11 kN
    obtain ⟨tf0, tf1, tf2, tf3, tf4, tf5, tf6, tf7, tf8, tf9, tf10, -⟩ := zf kN
    unfold swV swC
    dsimp only
    clear hb4 HC
    go_wp2_with fail
    obtain ⟨U, hU⟩ : ∃ U, setN w4 (w.heap.size + 1 + 1) 0 (zkx T b0 k0 b1 k1 b2 k2 b3 k3 b4 k4 b5 k5 b6 k6 b7 k7) = U := ⟨_, rfl⟩
    have hUn := zs11 hU
    have bU := zbw hU B4 (by omega)
    replace kS : Blk U w.heap.size 35 (zkx s a0 c0 a1 c1 a2 c2 a3 c3 a4 c4 a5 c5 a6 c6 a7 c7).toArray := by rw [← hU]; exact kS.setN (by omega) _
    replace kR : Blk U (w.heap.size + 1) 35 zkz.toArray := by rw [← hU]; exact kR.setN (by omega) _
    have HSU : Hid ((⟨b0, k0, b1, k1, b2, k2, b3, k3, b4, k4, b5, k5, b6, k6, b7, k7⟩ = (⟨a0, c0, a1, c1, a2, c2, a3, c3, a4, c4, a5, c5, a6, c6, a7, c7⟩ : Lay) ∧ T = s) ∨ SwO U w.heap.size ⟨b0, k0, b1, k1, b2, k2, b3, k3, b4, k4, b5, k5, b6, k6, b7, k7⟩ T) := by subst hU; exact .inr ((ho.base_ B3.size).farT kN _)
    have kU := zsw hU kN
    rw [hUn]
    clear hUn hU
    go_meet
    exact ⟨T, _, ⟨b0, k0, b1, k1, b2, k2, b3, k3, b4, k4, b5, k5, b6, k6, b7, k7⟩, rfl, HA, kS, kR, kU, HSU, bU⟩
   have hk3 : (k == 3) = false := by simpa using h3
   by_cases h4 : k = 4
   ·have hk4 : (k == 4) = true := by simpa using h4
    obtain ⟨⟨T, z, x⟩, hT⟩ : ∃ q, kilW s (1 + (m : Int) / 1920 % 4) = q := ⟨_, rfl⟩
    have HA : Hid (actW s n = (T, x)) := by show _ = _; rw [actW_at Hm.out, Hk.out, if_neg h01, if_neg h2, if_neg h3, if_pos h4, hT]
    have HC := Kill_any ⟨a0, c0, a1, c1, a2, c2, a3, c3, a4, c4, a5, c5, a6, c6, a7, c7⟩ s (1 + (m : Int) / 1920 % 4) w3 (SwA.of (HS.out.ext B3) hi.ok (by rw [hi.len]; omega)) (HTZ.out.ext HW0 B3)
    rw [hT] at HC
    dsimp only at HC
    replace HC := Lib.hid HC
    clear hT h4
    have zkS := kS.lt
    obtain ⟨q0, q1, q2, q3, q4, q5, q6, q7, q8, q9, q10⟩ := zc11 kS
    go_wp2_with fail
    refine HC.out.mono ?_
    rintro e4 w4 ⟨⟨b0, k0, b1, k1, b2, k2, b3, k3, b4, k4, b5, k5, b6, k6, b7, k7⟩, rfl, ho, hb4⟩
    clear zkS q0 q1 q2 q3 q4 q5 q6 q7 q8 q9 q10
    have B4 := zbt B3 hb4
    replace kS := kS.below_ hb4 kS.lt
    replace kR := kR.below_ hb4 kR.lt
    replace kN := kN.below_ hb4 kN.lt
    have zN := kN.lt
    obtain ⟨t0, t1, t2, t3, t4, t5, t6, t7, t8, t9, t10⟩ := zc11 kN
    obtain ⟨tf0, tf1, tf2, tf3, tf4, tf5, tf6, tf7, tf8, tf9, tf10, -⟩ := zf kN
    unfold swV swC
    dsimp only
    clear hb4 HC
    go_wp2_with fail
    obtain ⟨U, hU⟩ : ∃ U, setN w4 (w.heap.size + 1 + 1) 0 (zkx T b0 k0 b1 k1 b2 k2 b3 k3 b4 k4 b5 k5 b6 k6 b7 k7) = U := ⟨_, rfl⟩
    have hUn := zs11 hU
    have bU := zbw hU B4 (by omega)
    replace kS : Blk U w.heap.size 35 (zkx s a0 c0 a1 c1 a2 c2 a3 c3 a4 c4 a5 c5 a6 c6 a7 c7).toArray := by rw [← hU]; exact kS.setN (by omega) _
    replace kR : Blk U (w.heap.size + 1) 35 zkz.toArray := by rw [← hU]; exact kR.setN (by omega) _
    have HSU : Hid ((⟨b0, k0, b1, k1, b2, k2, b3, k3, b4, k4, b5, k5, b6, k6, b7, k7⟩ = (⟨a0, c0, a1, c1, a2, c2, a3, c3, a4, c4, a5, c5, a6, c6, a7, c7⟩ : Lay) ∧ T = s) ∨ SwO U w.heap.size ⟨b0, k0, b1, k1, b2, k2, b3, k3, b4, k4, b5, k5, b6, k6, b7, k7⟩ T) := by subst hU; exact .inr ((ho.base_ B3.size).farT kN _)
    have kU := zsw hU kN
    rw [hUn]
    clear hUn hU
    go_meet
    exact ⟨T, _, ⟨b0, k0, b1, k1, b2, k2, b3, k3, b4, k4, b5, k5, b6, k6, b7, k7⟩, rfl, HA, kS, kR, kU, HSU, bU⟩
   have hk4 : (k == 4) = false := by simpa using h4
   by_cases h5 : k = 5
   ·have hk5 : (k == 5) = true := by simpa using h5
    obtain ⟨⟨T, x⟩, hT⟩ : ∃ q, addW s ((m : Int) / 8 % 6) = q := ⟨_, rfl⟩
    have HA : Hid (actW s n = (T, x)) := by show _ = _; rw [actW_at Hm.out, Hk.out, if_neg h01, if_neg h2, if_neg h3, if_neg h4, if_pos h5, hT]
    have HC := Ref_any ⟨a0, c0, a1, c1, a2, c2, a3, c3, a4, c4, a5, c5, a6, c6, a7, c7⟩ s ((m : Int) / 8 % 6) w3 (SwA.of (HS.out.ext B3) hi.ok (by rw [hi.len]; omega)) (HTZ.out.ext HW0 B3)
    rw [hT] at HC
    dsimp only at HC
    replace HC := Lib.hid HC
    clear hT h5
    have zkS := kS.lt
    obtain ⟨q0, q1, q2, q3, q4, q5, q6, q7, q8, q9, q10⟩ := zc11 kS
    go_wp2_with fail
    refine HC.out.mono ?_
    rintro e4 w4 ⟨⟨b0, k0, b1, k1, b2, k2, b3, k3, b4, k4, b5, k5, b6, k6, b7, k7⟩, rfl, ho, hb4⟩
    clear zkS q0 q1 q2 q3 q4 q5 q6 q7 q8 q9 q10
    have B4 := zbt B3 hb4
    replace kS := kS.below_ hb4 kS.lt
    replace kR := kR.below_ hb4 kR.lt
    replace kN := kN.below_ hb4 kN.lt
    have zN := kN.lt
    obtain ⟨t0, t1, t2, t3, t4, t5, t6, t7, t8, t9, t10⟩ := zc11 kN
    obtain ⟨tf0, tf1, tf2, tf3, tf4, tf5, tf6, tf7, tf8, tf9, tf10, -⟩ := zf kN
    unfold swV swC
    dsimp only
    clear hb4 HC
    go_wp2_with fail
    obtain ⟨U, hU⟩ : ∃ U, setN w4 (w.heap.size + 1 + 1) 0 (zkx T b0 k0 b1 k1 b2 k2 b3 k3 b4 k4 b5 k5 b6 k6 b7 k7) = U := ⟨_, rfl⟩
    have hUn := zs11 hU
    have bU := zbw hU B4 (by omega)
    replace kS : Blk U w.heap.size 35 (zkx s a0 c0 a1 c1 a2 c2 a3 c3 a4 c4 a5 c5 a6 c6 a7 c7).toArray := by rw [← hU]; exact kS.setN (by omega) _
    replace kR : Blk U (w.heap.size + 1) 35 zkz.toArray := by rw [← hU]; exact kR.setN (by omega) _
    have HSU : Hid ((⟨b0, k0, b1, k1, b2, k2, b3, k3, b4, k4, b5, k5, b6, k6, b7, k7⟩ = (⟨a0, c0, a1, c1, a2, c2, a3, c3, a4, c4, a5, c5, a6, c6, a7, c7⟩ : Lay) ∧ T = s) ∨ SwO U w.heap.size ⟨b0, k0, b1, k1, b2, k2, b3, k3, b4, k4, b5, k5, b6, k6, b7, k7⟩ T) := by subst hU; exact .inr ((ho.base_ B3.size).farT kN _)
    have kU := zsw hU kN
    rw [hUn]
    clear hUn hU
    go_meet
    exact ⟨T, _, ⟨b0, k0, b1, k1, b2, k2, b3, k3, b4, k4, b5, k5, b6, k6, b7, k7⟩, rfl, HA, kS, kR, kU, HSU, bU⟩
   have hk5 : (k == 5) = false := by simpa using h5
   by_cases h6 : k = 6
   ·have hk6 : (k == 6) = true := by simpa using h6
    obtain ⟨⟨T, z, x⟩, hT⟩ : ∃ q, unrW s ((m : Int) / 8 % 6) = q := ⟨_, rfl⟩
    have HA : Hid (actW s n = (T, x)) := by show _ = _; rw [actW_at Hm.out, Hk.out, if_neg h01, if_neg h2, if_neg h3, if_neg h4, if_neg h5, if_pos h6, hT]
    have HC := Unref_any ⟨a0, c0, a1, c1, a2, c2, a3, c3, a4, c4, a5, c5, a6, c6, a7, c7⟩ s ((m : Int) / 8 % 6) w3 (SwA.of (HS.out.ext B3) hi.ok (by rw [hi.len]; omega)) (HTZ.out.ext HW0 B3)
    rw [hT] at HC
    dsimp only at HC
    replace HC := Lib.hid HC
    clear hT h6
    have zkS := kS.lt
    obtain ⟨q0, q1, q2, q3, q4, q5, q6, q7, q8, q9, q10⟩ := zc11 kS
    go_wp2_with fail
    refine HC.out.mono ?_
    rintro e4 w4 ⟨⟨b0, k0, b1, k1, b2, k2, b3, k3, b4, k4, b5, k5, b6, k6, b7, k7⟩, rfl, ho, hb4⟩
    clear zkS q0 q1 q2 q3 q4 q5 q6 q7 q8 q9 q10
    have B4 := zbt B3 hb4
    replace kS := kS.below_ hb4 kS.lt
    replace kR := kR.below_ hb4 kR.lt
    replace kN := kN.below_ hb4 kN.lt
    have zN := kN.lt
    obtain ⟨t0, t1, t2, t3, t4, t5, t6, t7, t8, t9, t10⟩ := zc11 kN
    obtain ⟨tf0, tf1, tf2, tf3, tf4, tf5, tf6, tf7, tf8, tf9, tf10, -⟩ := zf kN
    unfold swV swC
    dsimp only
    clear hb4 HC
    go_wp2_with fail
    obtain ⟨U, hU⟩ : ∃ U, setN w4 (w.heap.size + 1 + 1) 0 (zkx T b0 k0 b1 k1 b2 k2 b3 k3 b4 k4 b5 k5 b6 k6 b7 k7) = U := ⟨_, rfl⟩
    have hUn := zs11 hU
    have bU := zbw hU B4 (by omega)
    replace kS : Blk U w.heap.size 35 (zkx s a0 c0 a1 c1 a2 c2 a3 c3 a4 c4 a5 c5 a6 c6 a7 c7).toArray := by rw [← hU]; exact kS.setN (by omega) _
    replace kR : Blk U (w.heap.size + 1) 35 zkz.toArray := by rw [← hU]; exact kR.setN (by omega) _
    have HSU : Hid ((⟨b0, k0, b1, k1, b2, k2, b3, k3, b4, k4, b5, k5, b6, k6, b7, k7⟩ = (⟨a0, c0, a1, c1, a2, c2, a3, c3, a4, c4, a5, c5, a6, c6, a7, c7⟩ : Lay) ∧ T = s) ∨ SwO U w.heap.size ⟨b0, k0, b1, k1, b2, k2, b3, k3, b4, k4, b5, k5, b6, k6, b7, k7⟩ T) := by subst hU; exact .inr ((ho.base_ B3.size).farT kN _)
    have kU := zsw hU kN
    rw [hUn]
    clear hUn hU
    go_meet
    exact ⟨T, _, ⟨b0, k0, b1, k1, b2, k2, b3, k3, b4, k4, b5, k5, b6, k6, b7, k7⟩, rfl, HA, kS, kR, kU, HSU, bU⟩
   have hk6 : (k == 6) = false := by simpa using h6
   by_cases hj : 0 < s.dk.jobs.length
   ·have hjn : (s.dk.jobs.length : Int) ≠ 0 := by omega
    have HTL : Hid (((m : Int) / 8).tmod s.dk.jobs.length = (m : Int) / 8 % s.dk.jobs.length ∧ IntKind.i64.wrap ((m : Int) / 8 % s.dk.jobs.length) = (m : Int) / 8 % s.dk.jobs.length ∧ s.dk.jobs ≠ []) := by
     have e1 := Int.emod_nonneg ((m : Int) / 8) hjn
     have e2 := Int.emod_lt_of_pos ((m : Int) / 8) (show (0 : Int) < s.dk.jobs.length by omega)
     have e3 := hi.ok.dk.few
     have e4 := hi.ok.dk.room
     exact ⟨Int.tmod_eq_emod_of_nonneg (by omega), by rw [IntKind.wrap_i64]; omega, fun e => by rw [e] at hj; simp at hj⟩
    obtain ⟨⟨T, z, x⟩, hT⟩ : ∃ q, cmpW s ((m : Int) / 8 % s.dk.jobs.length) = q := ⟨_, rfl⟩
    have HA : Hid (actW s n = (T, x)) := by show _ = _; rw [actW_at Hm.out, Hk.out, if_neg h01, if_neg h2, if_neg h3, if_neg h4, if_neg h5, if_neg h6, if_pos hj, hT]
    have hC : ∀ V, Below w3.heap.size w3 V → _ := fun V hV => Complete_any ⟨a0, c0, a1, c1, a2, c2, a3, c3, a4, c4, a5, c5, a6, c6, a7, c7⟩ s ((m : Int) / 8 % s.dk.jobs.length) V (SwA.of (HS.out.ext (B3.trans (hV.mono B3.size))) hi.ok (by rw [hi.len]; omega)) (HTZ.out.ext HW0 (B3.trans (hV.mono B3.size)))
    rw [hT] at hC
    have HC := Lib.hid hC
    clear hC hT h01 h2 h3 h4 h5 h6
    have zkS := kS.lt
    obtain ⟨q0, q1, q2, q3, q4, q5, q6, q7, q8, q9, q10⟩ := zc11 kS
    go_upto_region 6 with fail
    clear zkS q0 q1 q2 q3 q4 q5 q6 q7 q8 q9 q10
    go_wp2_with fail
    refine zrg [1, 0, 1, 0, 0, 1, 0, 1, 2, 0, 0, 0, 0, 3, 0] [[], [], [], [], [], [], [], [], [], [8], [9], [9], [9], [], [12]] [.kn ?_, .is ?_, .kn ?_, .is ?_, .is ?_, .kn ?_, .is ?_, .kn ?_, .has (SwF T [dnV z, .int .i64 x]), .fn [8] fst_, .fn [9] (fun l => tupAt (fst_ l) 0), .fn [9] (fun l => tupAt (fst_ l) 1), .fn [9] (fun l => tupAt (fst_ l) 2), .late, .fn [12] fst_] [13] (lts_kn (lts_is (lts_kn (lts_is (lts_is (lts_kn (lts_is (lts_kn (lts_has (SwF.lasts T [dnV z, .int .i64 x]) (lts_fn (lts_fn (lts_fn (lts_fn (lts_late (lts_fn lts_nil))))))))))))))) (fun W0 hb0 hz0 => ?_)
    rotate_left 8
    have kW := kS.below_ hb0 kS.lt
    have zW := kW.lt
    obtain ⟨p0, p1, p2, p3, p4, p5, p6, p7, p8, p9, p10⟩ := zc11 kW
    refine zqT (fun w hbw hd => ?_) ?_
    ·have r0 := cell_keep hbw p0 zW
     have r1 := cell_keep hbw p1 zW
     have r2 := cell_keep hbw p2 zW
     have r3 := cell_keep hbw p3 zW
     have r4 := cell_keep hbw p4 zW
     have r5 := cell_keep hbw p5 zW
     have r6 := cell_keep hbw p6 zW
     have r7 := cell_keep hbw p7 zW
     have r8 := cell_keep hbw p8 zW
     have r9 := cell_keep hbw p9 zW
     have r10 := cell_keep hbw p10 zW
     exact zgs
    refine zqp ?_
    refine zqT (fun w hbw hd => ?_) ?_
    ·obtain ⟨ta, tb⟩ := HT8.out
     exact zgs
    refine zqp ?_
    refine zqp ?_
    refine zqT (fun w hbw hd => ?_) ?_
    ·have r7 := cell_keep hbw p7 zW
     exact zgs
    refine zqp ?_
    refine zqT (fun w hbw hd => ?_) ?_
    ·obtain ⟨tc, td, te⟩ := HTL.out
     exact zgs
    refine zqh (fun w hbw hd K Q' hK => ?_) (fun v6a8 => ?_)
    ·clear hd
     go_simp
     refine (HC.out _ (hb0.trans (hbw.mono hb0.size))).mono ?_
     rintro e y ⟨⟨b0, k0, b1, k1, b2, k2, b3, k3, b4, k4, b5, k5, b6, k6, b7, k7⟩, rfl, ho, hy⟩
     unfold swV swC
     go_wp2_with fail
     exact hK.out (.tuple #[.agg (zkx T b0 k0 b1 k1 b2 k2 b3 k3 b4 k4 b5 k5 b6 k6 b7 k7).toArray, dnV z, .int .i64 x]) _ _ zpt zbm ⟨⟨b0, k0, b1, k1, b2, k2, b3, k3, b4, k4, b5, k5, b6, k6, b7, k7⟩, rfl, ho⟩
    refine zqf (v6a8) ?_
    refine zqF (tupAt (v6a8) 0) (fun w0 hd w => ?_) ?_
    ·obtain ⟨_, _, ⟨b0, k0, b1, k1, b2, k2, b3, k3, b4, k4, b5, k5, b6, k6, b7, k7⟩, rfl, _⟩ : ∃ lo hi, SwF T [dnV z, .int .i64 x] v6a8 lo hi w0 := hd 8 _ _ (by kernel_rfl) rfl rfl
     unfold swV swC
     exact zsr
    refine zqF (tupAt (v6a8) 1) (fun w0 hd w => ?_) ?_
    ·obtain ⟨_, _, ⟨b0, k0, b1, k1, b2, k2, b3, k3, b4, k4, b5, k5, b6, k6, b7, k7⟩, rfl, _⟩ : ∃ lo hi, SwF T [dnV z, .int .i64 x] v6a8 lo hi w0 := hd 8 _ _ (by kernel_rfl) rfl rfl
     unfold swV swC
     exact zsr
    refine zqF (tupAt (v6a8) 2) (fun w0 hd w => ?_) ?_
    ·obtain ⟨_, _, ⟨b0, k0, b1, k1, b2, k2, b3, k3, b4, k4, b5, k5, b6, k6, b7, k7⟩, rfl, _⟩ : ∃ lo hi, SwF T [dnV z, .int .i64 x] v6a8 lo hi w0 := hd 8 _ _ (by kernel_rfl) rfl rfl
     unfold swV swC
     exact zsr
    refine zql ?_
    refine zqf (tupAt (v6a8) 2) ?_
    refine chn_end (fun wz lo hi hbz hd hR => ?_)
    obtain ⟨⟨b0, k0, b1, k1, b2, k2, b3, k3, b4, k4, b5, k5, b6, k6, b7, k7⟩, rfl, ho⟩ : SwF T [dnV z, .int .i64 x] v6a8 (lo 8) (hi 8) wz := hd 8 _ _ rfl rfl
    have hlo8 : w.heap.size ≤ lo 8 := Nat.le_trans (Nat.le_trans B3.size hb0.size) (hR.2 8 _ rfl).1
    have B4 : Below w.heap.size w wz := B3.trans ((hb0.trans (hbz.mono hb0.size)).mono B3.size)
    replace kS := kS.below_ (hb0.trans (hbz.mono hb0.size)) kS.lt
    replace kR := kR.below_ (hb0.trans (hbz.mono hb0.size)) kR.lt
    replace kN := kN.below_ (hb0.trans (hbz.mono hb0.size)) kN.lt
    clear hd hR p0 p1 p2 p3 p4 p5 p6 p7 p8 p9 p10
    unfold swV swC
    simp only [tupAt, List.getD_cons_succ, List.getD_cons_zero, Array.getD_eq_getD_getElem?, zy5, zy6, zy7, Option.getD_some]
    have zN := kN.lt
    obtain ⟨t0, t1, t2, t3, t4, t5, t6, t7, t8, t9, t10⟩ := zc11 kN
    obtain ⟨tf0, tf1, tf2, tf3, tf4, tf5, tf6, tf7, tf8, tf9, tf10, -⟩ := zf kN
    refine late_one (by simp only [zy5, zy6, zy7]; rfl) (fun K Q' hK => ?_)
    go_simp
    refine hK.out _ ?_
    clear hK K Q'
    obtain ⟨U, hU⟩ : ∃ U, setN wz (w.heap.size + 1 + 1) 0 (zkx T b0 k0 b1 k1 b2 k2 b3 k3 b4 k4 b5 k5 b6 k6 b7 k7) = U := ⟨_, rfl⟩
    have hUn := zs11 hU
    have bU := zbw hU B4 (by omega)
    replace kS : Blk U w.heap.size 35 (zkx s a0 c0 a1 c1 a2 c2 a3 c3 a4 c4 a5 c5 a6 c6 a7 c7).toArray := by rw [← hU]; exact kS.setN (by omega) _
    replace kR : Blk U (w.heap.size + 1) 35 zkz.toArray := by rw [← hU]; exact kR.setN (by omega) _
    have HSU : Hid ((⟨b0, k0, b1, k1, b2, k2, b3, k3, b4, k4, b5, k5, b6, k6, b7, k7⟩ = (⟨a0, c0, a1, c1, a2, c2, a3, c3, a4, c4, a5, c5, a6, c6, a7, c7⟩ : Lay) ∧ T = s) ∨ SwO U w.heap.size ⟨b0, k0, b1, k1, b2, k2, b3, k3, b4, k4, b5, k5, b6, k6, b7, k7⟩ T) := by subst hU; exact .inr ((ho.base_ hlo8).farT kN _)
    have kU := zsw hU kN
    rw [hUn]
    clear hUn hU
    go_wp2_with fail
    go_meet
    exact ⟨T, _, ⟨b0, k0, b1, k1, b2, k2, b3, k3, b4, k4, b5, k5, b6, k6, b7, k7⟩, rfl, HA, kS, kR, kU, HSU, bU⟩
   have HA : Hid (actW s n = (s, 0)) := by show _ = _; rw [actW_at Hm.out, Hk.out, if_neg h01, if_neg h2, if_neg h3, if_neg h4, if_neg h5, if_neg h6, if_neg hj]
   have zkS := kS.lt
   obtain ⟨q0, q1, q2, q3, q4, q5, q6, q7, q8, q9, q10⟩ := zc11 kS
   go_wp2_with fail
   clear zkS q0 q1 q2 q3 q4 q5 q6 q7 q8 q9 q10
   go_meet
   exact ⟨s, _, ⟨a0, c0, a1, c1, a2, c2, a3, c3, a4, c4, a5, c5, a6, c6, a7, c7⟩, rfl, HA, kS, kR, kN, Lib.hid (.inl ⟨rfl, rfl⟩), B3⟩
 case rest =>
  obtain ⟨T, x, ⟨b0, k0, b1, k1, b2, k2, b3, k3, b4, k4, b5, k5, b6, k6, b7, k7⟩, rfl, HA, kS, kR, kN, HSU, Bx⟩ := hcut
  unfold swC at kS kN
  dsimp only at kS kN
  by_cases hx : x = 0
  ·have hx0 : (x != 0) = false := by simp [hx]
   have HE : Hid (stepW s n = T) := by show _ = _; unfold stepW; rw [HA.out]; simp [hx]
   obtain ⟨y0, y1, y2, y3, y4, y5, y6, y7, y8, y9, y10⟩ := zc11 kN
   obtain ⟨t0, t1, t2, t3, t4, t5, t6, t7, t8, t9, t10⟩ := zc11 kR
   obtain ⟨tf0, tf1, tf2, tf3, tf4, tf5, tf6, tf7, tf8, tf9, tf10, -⟩ := zf kR
   have zR := kR.lt
   have zK := kN.lt
   go_wp2_with fail
   obtain ⟨W, hW⟩ : ∃ W, setN wc (w.heap.size + 1) 0 (zkx T b0 k0 b1 k1 b2 k2 b3 k3 b4 k4 b5 k5 b6 k6 b7 k7) = W := ⟨_, rfl⟩
   have hWn := zs11 hW
   have kW := zsw hW kR
   have bW := zbw hW Bx (by omega)
   have hrW : (⟨b0, k0, b1, k1, b2, k2, b3, k3, b4, k4, b5, k5, b6, k6, b7, k7⟩ = (⟨a0, c0, a1, c1, a2, c2, a3, c3, a4, c4, a5, c5, a6, c6, a7, c7⟩ : Lay) ∧ T = s) ∨ SwO W w.heap.size ⟨b0, k0, b1, k1, b2, k2, b3, k3, b4, k4, b5, k5, b6, k6, b7, k7⟩ T := by rw [← hW]; exact HSU.out.imp_right fun h => h.farT kR _
   rw [hWn]
   clear hWn hW t0 tf0 y0 t1 tf1 y1 t2 tf2 y2 t3 tf3 y3 t4 tf4 y4 t5 tf5 y5 t6 tf6 y6 t7 tf7 y7 t8 tf8 y8 t9 tf9 y9 t10 tf10 y10
   refine bodyPost_ret (by simp [results, Tryz.results39, go_sem, zc11 kW] <;> rfl) rfl ?_
   rw [HE.out]
   exact ⟨⟨b0, k0, b1, k1, b2, k2, b3, k3, b4, k4, b5, k5, b6, k6, b7, k7⟩, rfl, hrW, bW⟩
  have hx0 : (x != 0) = true := by simpa using hx
  have HE : Hid (stepW s n = s) := by show _ = _; unfold stepW; rw [HA.out]; simp [hx]
  obtain ⟨y0, y1, y2, y3, y4, y5, y6, y7, y8, y9, y10⟩ := zc11 kS
  obtain ⟨t0, t1, t2, t3, t4, t5, t6, t7, t8, t9, t10⟩ := zc11 kR
  obtain ⟨tf0, tf1, tf2, tf3, tf4, tf5, tf6, tf7, tf8, tf9, tf10, -⟩ := zf kR
  have zR := kR.lt
  have zK := kS.lt
  go_wp2_with fail
  obtain ⟨W, hW⟩ : ∃ W, setN wc (w.heap.size + 1) 0 (zkx s a0 c0 a1 c1 a2 c2 a3 c3 a4 c4 a5 c5 a6 c6 a7 c7) = W := ⟨_, rfl⟩
  have hWn := zs11 hW
  have kW := zsw hW kR
  have bW := zbw hW Bx (by omega)
  rw [hWn]
  clear hWn hW t0 tf0 y0 t1 tf1 y1 t2 tf2 y2 t3 tf3 y3 t4 tf4 y4 t5 tf5 y5 t6 tf6 y6 t7 tf7 y7 t8 tf8 y8 t9 tf9 y9 t10 tf10 y10
  refine bodyPost_ret (by simp [results, Tryz.results39, go_sem, zc11 kW] <;> rfl) rfl ?_
  rw [HE.out]
  exact ⟨⟨a0, c0, a1, c1, a2, c2, a3, c3, a4, c4, a5, c5, a6, c6, a7, c7⟩, rfl, .inl ⟨rfl, rfl⟩, bW⟩
theorem step_own (L : Lay) (s : Swp) (n : Int) (base : Nat) (w : World) (h : SwO w base L s) (hb : base ≤ w.heap.size) (hi : Inv6 s) (hz : TZ w) : Calls Tryz.prog 39 #[swV L s, .int .i64 n] w fun e w' => ∃ L', e = .returned (swV L' (stepW s n)) ∧ SwO w' base L' (stepW s n) ∧ Below w.heap.size w w' := by
 refine (step_any L s n w h.sw hi hz).mono ?_
 rintro e w' ⟨L', rfl, h1, h2⟩
 refine ⟨L', rfl, ?_, h2⟩
 rcases h1 with ⟨rfl, h3⟩ | h3
 ·rw [h3]; exact h.ext h2
 ·exact h3.base_ hb
def SwG (S : Swp) (base : Nat) (v : Value) (_lo _hi : Nat) (w : World) : Prop := ∃ L, v = swV L S ∧ SwO w base L S
theorem SwG.lasts (S : Swp) (base : Nat) : (Fk.has (SwG S base)).lasts := fun _ _ _ _ _ ⟨L, e, h⟩ hb => ⟨L, e, h.ext hb⟩
theorem take_50 {nums : List Int} {k : Nat} (hk : k ≤ 50) (hn : k ≤ nums.length) (h : ¬ k < nums.length ∨ ¬ k < 50) : nums.take k = nums.take 50 := by
 rcases h with h | h
 ·rw [List.take_of_length_le (by omega), List.take_of_length_le (by omega)]
 ·rw [show k = 50 by omega]
theorem run_snoc (s : Swp) (nums : List Int) {k : Nat} {x : Int} (hx : nums[k]? = some x) : runW s (nums.take (k + 1)) = stepW (runW s (nums.take k)) x := by
 unfold runW
 rw [List.take_add_one, hx, List.foldl_append]
 rfl
theorem made_any (A : Option Addr) (c : Nat) (nums : List Int) (w : World) (hn : Sl w (.int .i64) A nums) (hln : nums.length ≤ 9223372036854775807) (hz : TZ w) :
  Calls Tryz.prog 37 #[.slice A nums.length c] w fun e w' => ∃ L, e = .returned (.tuple #[swV L (madeW nums), .bool true]) ∧ SwO w' w.heap.size L (madeW nums) ∧ Below w.heap.size w w' := by
 have HTZ := Lib.hid hz
 have HW0 : 0 < w.heap.size := hz.pos
 have HN := Lib.hid hn
 clear hn hz
 obtain ⟨S0, e0, hS⟩ : ∃ S0 e0, newW 6 4 2 = (S0, e0) := ⟨_, _, rfl⟩
 have hI0 : Hid (Inv6 S0) := by have := new_inv; rw [hS] at this; exact this
 have he0 : e0 = 0 := (congrArg Prod.snd hS).symm.trans (show (newW 6 4 2).2 = 0 by decide +kernel)
 subst he0
 have HM : Hid (madeW nums = runW S0 (nums.take 50)) := by show _ = _; unfold madeW; rw [hS]
 obtain ⟨X, hX⟩ : ∃ X, w.alloc (.cells zkz.toArray 35) = X := ⟨_, rfl⟩
 have kX := za hX
 have BX := zab hX
 have hXs : w.heap.size < X.heap.size := kX.lt
 have HC := SwNew_any 6 4 2 X (.inl (by omega))
 rw [hS] at HC
 dsimp only at HC
 replace HC := Lib.hid HC
 clear hS
 go_enter Tryz.func37, Tryz.ntmps37
 go_wp2_with fail
 (try rw [hX])
 clear hX
 refine HC.out.mono ?_
 rintro e1 w1 ⟨⟨a0, c0, a1, c1, a2, c2, a3, c3, a4, c4, a5, c5, a6, c6, a7, c7⟩, rfl, ho, hb1⟩
 clear HC
 unfold swV swC
 dsimp only
 go_upto_region 2 with fail
 obtain ⟨V, hV⟩ : ∃ V, w1.alloc (.cells (zkx S0 a0 c0 a1 c1 a2 c2 a3 c3 a4 c4 a5 c5 a6 c6 a7 c7).toArray 35) = V := ⟨_, rfl⟩
 obtain ⟨B, hBe⟩ : ∃ B, w1.heap.size = B := ⟨_, rfl⟩
 have kV : Blk V B 35 (zkx S0 a0 c0 a1 c1 a2 c2 a3 c3 a4 c4 a5 c5 a6 c6 a7 c7).toArray := by rw [← hV, ← hBe]; exact Blk.new_ rfl rfl
 have hbV := zab hV
 have HO0 : Hid (SwO V w.heap.size ⟨a0, c0, a1, c1, a2, c2, a3, c3, a4, c4, a5, c5, a6, c6, a7, c7⟩ S0) := (ho.base_ BX.size).ext hbV
 have hBl : w.heap.size < B := by rw [← hBe]; exact Nat.lt_of_lt_of_le hXs hb1.size
 have BV : Below w.heap.size w V := BX.trans ((hb1.trans (hbV.mono hb1.size)).mono BX.size)
 have kRV : Blk V w.heap.size 35 zkz.toArray := (kX.below_ hb1 kX.lt).below_ hbV (Nat.lt_of_lt_of_le hXs hb1.size)
 rw [hV, hBe]
 clear hV ho hb1 hbV hXs kX BX hBe
 go_wp2_with fail
 go_loopw [6] (fun i wr => ∃ (k : Nat) (S : Swp) (L : Lay), k ≤ 50 ∧ k ≤ nums.length ∧ i = .int .i64 k ∧ Hid (S = runW S0 (nums.take k)) ∧ Blk wr w.heap.size 35 zkz.toArray ∧ Blk wr B 35 (swC L S).toArray ∧ Hid (SwO wr w.heap.size L S) ∧ Hid (Inv6 S) ∧ Below w.heap.size w wr) (fun i _ => 50 - (intOf i).toNat)
 case atStart => exact ⟨0, S0, ⟨a0, c0, a1, c1, a2, c2, a3, c3, a4, c4, a5, c5, a6, c6, a7, c7⟩, by omega, by omega, rfl, (rfl : S0 = _), kRV, kV, HO0, hI0, BV⟩
 case round =>
  obtain ⟨k, S, ⟨a0, c0, a1, c1, a2, c2, a3, c3, a4, c4, a5, c5, a6, c6, a7, c7⟩, hk, hkn, rfl, HS, kR, kB, HO, HI, hbw⟩ := hrel
  unfold swC at kB
  dsimp only at kB
  clear kRV kV BV HO0
  have hkk : ¬ k < nums.length ∨ ¬ k < 50 → Hid (madeW nums = S) := fun h => by show _ = _; rw [HM.out, HS.out, take_50 hk hkn h]
  by_cases hlt : k < nums.length
  ·have i1 : (k : Int) < nums.length := by omega
   by_cases hk' : k < 50
   ·have i2 : (k : Int) < 50 := by omega
    obtain ⟨b, off, x, rfl, hbl, hx', hx⟩ := (HN.out.ext hbw).at_ hlt
    obtain ⟨T, hT⟩ : ∃ T, stepW S x = T := ⟨_, rfl⟩
    have HS2 : Hid (T = runW S0 (nums.take (k + 1))) := by show _ = _; rw [run_snoc _ _ hx', ← HS.out, hT]
    have HI2 : Hid (Inv6 T) := by rw [← hT]; exact step_inv HI.out x
    have hC : ∀ V, Below wr.heap.size wr V → _ := fun V hV => step_own ⟨a0, c0, a1, c1, a2, c2, a3, c3, a4, c4, a5, c5, a6, c6, a7, c7⟩ S x w.heap.size V (HO.out.ext hV) (Nat.le_trans hbw.size hV.size) HI.out (HTZ.out.ext HW0 (hbw.trans (hV.mono hbw.size)))
    rw [hT] at hC
    have HC := Lib.hid hC
    have HX := Lib.hid hx'
    clear hC hT hx' hkk
    go_wp2_with fail
    refine zrg [1, 0, 0, 0, 1, 2, 3] [[], [], [], [], [], [], []] [.kn ?_, .is ?_, .is ?_, .is ?_, .kn ?_, .has (SwG T w.heap.size), .late] [6] (lts_kn (lts_is (lts_is (lts_is (lts_kn (lts_has (SwG.lasts T w.heap.size) (lts_late lts_nil))))))) (fun W0 hb0 hz0 => ?_)
    rotate_left 5
    have kW := kB.below_ hb0 kB.lt
    have zW := kW.lt
    have px := cell_keep hb0 hx hbl
    have zx := Nat.lt_of_lt_of_le hbl hb0.size
    obtain ⟨p0, p1, p2, p3, p4, p5, p6, p7, p8, p9, p10⟩ := zc11 kW
    refine zqT (fun w hbw hd => ?_) ?_
    ·have r0 := cell_keep hbw p0 zW
     have r1 := cell_keep hbw p1 zW
     have r2 := cell_keep hbw p2 zW
     have r3 := cell_keep hbw p3 zW
     have r4 := cell_keep hbw p4 zW
     have r5 := cell_keep hbw p5 zW
     have r6 := cell_keep hbw p6 zW
     have r7 := cell_keep hbw p7 zW
     have r8 := cell_keep hbw p8 zW
     have r9 := cell_keep hbw p9 zW
     have r10 := cell_keep hbw p10 zW
     exact zgs
    refine zqp ?_
    refine zqp ?_
    refine zqp ?_
    refine zqT (fun w hbw hd => ?_) ?_
    ·have rx := cell_keep hbw px zx
     exact zgs
    refine zqh (fun w hbw hd K Q' hK => ?_) (fun v7a5 => ?_)
    ·clear hd
     go_simp
     refine (HC.out _ (hb0.trans (hbw.mono hb0.size))).mono ?_
     rintro e y ⟨⟨b0, k0, b1, k1, b2, k2, b3, k3, b4, k4, b5, k5, b6, k6, b7, k7⟩, rfl, ho, hy⟩
     unfold swV swC
     go_wp2_with fail
     exact hK.out (.agg (zkx T b0 k0 b1 k1 b2 k2 b3 k3 b4 k4 b5 k5 b6 k6 b7 k7).toArray) _ _ zpt zbm ⟨⟨b0, k0, b1, k1, b2, k2, b3, k3, b4, k4, b5, k5, b6, k6, b7, k7⟩, rfl, ho⟩
    refine zql ?_
    refine chn_end (fun wz lo hi hbz hd hR => ?_)
    obtain ⟨⟨b0, k0, b1, k1, b2, k2, b3, k3, b4, k4, b5, k5, b6, k6, b7, k7⟩, rfl, ho⟩ : SwG T w.heap.size v7a5 (lo 5) (hi 5) wz := hd 5 _ _ rfl rfl
    have hbz0 := hb0.trans (hbz.mono hb0.size)
    have B4 := zbt hbw hbz0
    have kZ := kB.below_ hbz0 kB.lt
    have kRZ := kR.below_ hbz0 kR.lt
    have HZx := Lib.hid hb0
    clear hd hR hbz hb0 hbz0 p0 p1 p2 p3 p4 p5 p6 p7 p8 p9 p10 px
    unfold swV swC
    have zN := kZ.lt
    obtain ⟨t0, t1, t2, t3, t4, t5, t6, t7, t8, t9, t10⟩ := zc11 kZ
    obtain ⟨tf0, tf1, tf2, tf3, tf4, tf5, tf6, tf7, tf8, tf9, tf10, -⟩ := zf kZ
    refine late_one (by simp only [zy5, zy6, zy7]; rfl) (fun K Q' hK => ?_)
    go_simp
    refine hK.out _ ?_
    clear hK K Q'
    obtain ⟨U, hU⟩ : ∃ U, setN wz B 0 (zkx T b0 k0 b1 k1 b2 k2 b3 k3 b4 k4 b5 k5 b6 k6 b7 k7) = U := ⟨_, rfl⟩
    have hUn := zs11 hU
    have bU := zbw hU B4 (by omega)
    have kU := zsw hU kZ
    have kRU : Blk U w.heap.size 35 zkz.toArray := by rw [← hU]; exact kRZ.setN (by omega) _
    have HOU : Hid (SwO U w.heap.size ⟨b0, k0, b1, k1, b2, k2, b3, k3, b4, k4, b5, k5, b6, k6, b7, k7⟩ T) := by subst hU; exact ho.farT kZ _
    rw [hUn]
    clear hUn hU ho kZ kRZ kW zW zN t0 tf0 t1 tf1 t2 tf2 t3 tf3 t4 tf4 t5 tf5 t6 tf6 t7 tf7 t8 tf8 t9 tf9 t10 tf10
    have h6 := HI2.out.len
    have h7 := HI2.out.cells
    have hCk := wCheck_any ⟨b0, k0, b1, k1, b2, k2, b3, k3, b4, k4, b5, k5, b6, k6, b7, k7⟩ T U (SwA.of HOU.out.sw HI2.out.ok (by omega)) (HTZ.out.ext HW0 bU)
    rw [chkW_ok.2 HI2.out.ok] at hCk
    have HCk := Lib.hid hCk
    have hq6 : ((T.sl.refs.length : Int) != 6) = false := by rw [h6]; rfl
    have hq7 : ((T.dk.cells.length : Int) != 6) = false := by rw [h7]; rfl
    have H67 := Lib.hid (And.intro hq6 hq7)
    clear hCk h6 h7 hq6 hq7
    have zU := kU.lt
    obtain ⟨n0, n1, n2, n3, n4, n5, n6, n7, n8, n9, n10⟩ := zc11 kU
    go_wp2_with fail
    refine HCk.out.mono ?_
    rintro e5 w5 ⟨rfl, hb5⟩
    have zU5 := hb5.size
    have m0 := cell_keep hb5 n0 zU
    have m1 := cell_keep hb5 n1 zU
    have m2 := cell_keep hb5 n2 zU
    have m3 := cell_keep hb5 n3 zU
    have m4 := cell_keep hb5 n4 zU
    have m5 := cell_keep hb5 n5 zU
    have m6 := cell_keep hb5 n6 zU
    have m7 := cell_keep hb5 n7 zU
    have m8 := cell_keep hb5 n8 zU
    have m9 := cell_keep hb5 n9 zU
    have m10 := cell_keep hb5 n10 zU
    have zU6 : B < w5.heap.size := Nat.lt_of_lt_of_le zU zU5
    clear n0 n1 n2 n3 n4 n5 n6 n7 n8 n9 n10
    obtain ⟨hq6, hq7⟩ := H67.out
    go_wp2_with fail
    have kB5 := kU.below_ hb5 kU.lt
    have kR5 := kRU.below_ hb5 kRU.lt
    have HO5 : Hid (SwO w5 w.heap.size ⟨b0, k0, b1, k1, b2, k2, b3, k3, b4, k4, b5, k5, b6, k6, b7, k7⟩ T) := HOU.out.ext hb5
    have Bw5 := zbt bU hb5
    clear hq6 hq7
    go_roundw
    case rel => exact ⟨k + 1, T, ⟨b0, k0, b1, k1, b2, k2, b3, k3, b4, k4, b5, k5, b6, k6, b7, k7⟩, by omega, by omega, by go_num, HS2, kR5, kB5, HO5, HI2, Bw5⟩
    case measure => simp [intOf]; omega
   ·have i2 : ¬ ((k : Int) < 50) := by omega
    have HE := hkk (.inr hk')
    clear hkk
    obtain ⟨y0, y1, y2, y3, y4, y5, y6, y7, y8, y9, y10⟩ := zc11 kB
    obtain ⟨t0, t1, t2, t3, t4, t5, t6, t7, t8, t9, t10⟩ := zc11 kR
    obtain ⟨tf0, tf1, tf2, tf3, tf4, tf5, tf6, tf7, tf8, tf9, tf10, -⟩ := zf kR
    have zR := kR.lt
    have zK := kB.lt
    go_wp2_with fail
    obtain ⟨W, hW⟩ : ∃ W, setN wr (w.heap.size) 0 (zkx S a0 c0 a1 c1 a2 c2 a3 c3 a4 c4 a5 c5 a6 c6 a7 c7) = W := ⟨_, rfl⟩
    have hWn := zs11 hW
    have kW := zsw hW kR
    have bW : Below w.heap.size w W := by rw [← hW]; exact below_setN hbw (Nat.le_refl _) _
    have hoW : SwO W w.heap.size ⟨a0, c0, a1, c1, a2, c2, a3, c3, a4, c4, a5, c5, a6, c6, a7, c7⟩ S := by rw [← hW]; exact HO.out.farT kR _
    rw [hWn]
    clear hWn hW t0 tf0 y0 t1 tf1 y1 t2 tf2 y2 t3 tf3 y3 t4 tf4 y4 t5 tf5 y5 t6 tf6 y6 t7 tf7 y7 t8 tf8 y8 t9 tf9 y9 t10 tf10 y10
    refine bodyPost_ret (by simp [results, Tryz.results37, go_sem, zc11 kW] <;> rfl) rfl ?_
    rw [HE.out]
    exact ⟨⟨a0, c0, a1, c1, a2, c2, a3, c3, a4, c4, a5, c5, a6, c6, a7, c7⟩, rfl, hoW, bW⟩
  ·have i1 : ¬ ((k : Int) < nums.length) := by omega
   have HE := hkk (.inl hlt)
   clear hkk
   obtain ⟨y0, y1, y2, y3, y4, y5, y6, y7, y8, y9, y10⟩ := zc11 kB
   obtain ⟨t0, t1, t2, t3, t4, t5, t6, t7, t8, t9, t10⟩ := zc11 kR
   obtain ⟨tf0, tf1, tf2, tf3, tf4, tf5, tf6, tf7, tf8, tf9, tf10, -⟩ := zf kR
   have zR := kR.lt
   have zK := kB.lt
   go_wp2_with fail
   obtain ⟨W, hW⟩ : ∃ W, setN wr (w.heap.size) 0 (zkx S a0 c0 a1 c1 a2 c2 a3 c3 a4 c4 a5 c5 a6 c6 a7 c7) = W := ⟨_, rfl⟩
   have hWn := zs11 hW
   have kW := zsw hW kR
   have bW : Below w.heap.size w W := by rw [← hW]; exact below_setN hbw (Nat.le_refl _) _
   have hoW : SwO W w.heap.size ⟨a0, c0, a1, c1, a2, c2, a3, c3, a4, c4, a5, c5, a6, c6, a7, c7⟩ S := by rw [← hW]; exact HO.out.farT kR _
   rw [hWn]
   clear hWn hW t0 tf0 y0 t1 tf1 y1 t2 tf2 y2 t3 tf3 y3 t4 tf4 y4 t5 tf5 y5 t6 tf6 y6 t7 tf7 y7 t8 tf8 y8 t9 tf9 y9 t10 tf10 y10
   refine bodyPost_ret (by simp [results, Tryz.results37, go_sem, zc11 kW] <;> rfl) rfl ?_
   rw [HE.out]
   exact ⟨⟨a0, c0, a1, c1, a2, c2, a3, c3, a4, c4, a5, c5, a6, c6, a7, c7⟩, rfl, hoW, bW⟩
theorem SR.sb {w : World} {A : Option Addr} {l : List Bool} (h : SR boolE w A l) {k : Nat} (hk : k < l.length) : ∃ b off y, A = some ⟨b, off, none⟩ ∧ b < w.heap.size ∧ l[k]? = some y ∧ w.cell? ⟨b, off + k, none⟩ = some (.bool y) := by
 obtain ⟨b, off, y, e, hb, hy, hc⟩ := h.at_ hk
 refine ⟨b, off, y, e, hb, hy, ?_⟩
 have := hc 0 (.bool y) rfl
 simpa [boolE] using this
structure CleanI (M : Swp) (k : Nat) (S : Swp) : Prop where
 ok : OkS S
 fin : finS S = finS M
 jobs : S.dk.jobs.length + k = M.dk.jobs.length
 len : S.sl.refs.length = 6
def SeenI (sv : List Bool) (S : Swp) : Prop := sv.length = 6 ∧ ∀ j ∈ S.dk.jobs, sv.getD j.slot.toNat false = false
theorem CleanI.step {M S : Swp} {k : Nat} (h : CleanI M k S) {n : Nat} (hn : n < S.dk.jobs.length) : ∃ (T : Swp) (D : Dn) (m : Nat), cmpW S (n : Int) = (T, D, 0) ∧ CleanI M (k + 1) T ∧ D.job.slot = (m : Int) ∧ m < 6 ∧
  ∀ sv, SeenI sv S → sv.getD m false = false ∧ SeenI (sv.set m true) T := by
 have hj : S.dk.jobs[(n : Int).toNat]? = some S.dk.jobs[n] := by rw [Int.toNat_natCast]; exact List.getElem?_eq_getElem hn
 obtain ⟨h1, h2⟩ := cmp_ok h.ok (Int.natCast_nonneg n) hj
 have hm : S.dk.jobs[n] ∈ S.dk.jobs := List.getElem_mem hn
 obtain ⟨hs0, hs1, _⟩ := h.ok.dk.inr _ hm
 have hl := h.ok.len
 rw [h.len] at hl
 have hl2 := dn_len h.ok hj
 refine ⟨_, _, S.dk.jobs[n].slot.toNat, h1, ⟨h2, (fin_dn h.ok (Int.natCast_nonneg n) hj).trans h.fin, by have := h.jobs; omega, ?_⟩, ?_, by omega, fun sv hv => ⟨hv.2 _ hm, by rw [List.length_set]; exact hv.1, fun j hj' => ?_⟩⟩
 ·show (witT S.sl _ _ _).refs.length = 6
  unfold witT
  rw [List.length_set]
  exact h.len
 ·rw [(dnJ_wr S.dk S.dk.jobs[n]).2.1]
  exact (Int.toNat_of_nonneg hs0).symm
 ·have hj2 := List.mem_filter.1 (show j ∈ S.dk.jobs.filter fun k => decide (k.slot ≠ S.dk.jobs[n].slot) from hj')
  obtain ⟨ht0, ht1, _⟩ := h.ok.dk.inr _ hj2.1
  have hne : j.slot ≠ S.dk.jobs[n].slot := of_decide_eq_true hj2.2
  have h3 := hv.2 j hj2.1
  rw [List.getD_eq_getElem?_getD] at h3 ⊢
  rw [List.getElem?_set_ne (by omega)]
  exact h3
theorem CleanI.done {M S : Swp} {k : Nat} (h : CleanI M k S) (hk : ¬ k < M.dk.jobs.length) : S = finS M := by
 have hj : S.dk.jobs = [] := List.length_eq_zero_iff.1 (by have := h.jobs; omega)
 rw [← h.fin]
 exact (fin_none h.ok hj).symm
end Go.Proofs.YthijbipidbjpfaaGreatDoor
