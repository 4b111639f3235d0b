import Derived.Test.YthijbipidbjpfaaGreatDoorZC23
import Derived.Test.YthijbipidbjpfaaGreatDoorZC00
import Derived.Test.YthijbipidbjpfaaGreatDoorZC04
import Derived.Test.YthijbipidbjpfaaGreatDoorZC14
import Derived.Test.YthijbipidbjpfaaGreatDoorZC06
import Derived.Test.YthijbipidbjpfaaGreatDoorZC03
set_option linter.unusedSimpArgs false
set_option linter.unusedVariables false
set_option maxRecDepth 100000
set_option maxHeartbeats 8000000
namespace Go.Proofs.YthijbipidbjpfaaGreatDoor
open Go.RowKit Go.Maps
theorem known_any (w : World) (hz : TZ w) : Calls Tryz.prog 7 #[] w fun e w' => e = .returned (.bool true) ∧ Below w.heap.size w w' := by
 have HTZ := Lib.hid hz
 have HW0 : 0 < w.heap.size := hz.pos
 clear hz
 go_enter Tryz.func7, Tryz.ntmps7
 have hCk2 := SwNew_any 2 3 1 w (.inl (by omega))
 rw [kn_new] at hCk2
 (try dsimp only at hCk2)
 replace hCk2 := Lib.hid hCk2
 go_wp2_with fail
 refine hCk2.out.mono ?_
 rintro ek4 wk3 ⟨⟨ak1_0, ck1_0, ak1_1, ck1_1, ak1_2, ck1_2, ak1_3, ck1_3, ak1_4, ck1_4, ak1_5, ck1_5, ak1_6, ck1_6, ak1_7, ck1_7⟩, rfl, ho, hbk5⟩
 have Bk6 := hbk5
 clear hbk5 hCk2
 (try unfold swV swC)
 (try dsimp only)
 go_upto_region 2 with fail
 obtain ⟨Vk7, hVk7⟩ : ∃ V, wk3.alloc (.cells (zkx kn0 ak1_0 ck1_0 ak1_1 ck1_1 ak1_2 ck1_2 ak1_3 ck1_3 ak1_4 ck1_4 ak1_5 ck1_5 ak1_6 ck1_6 ak1_7 ck1_7).toArray 35) = V := ⟨_, rfl⟩
 have ks := za hVk7
 have hbVk7 := zab hVk7
 (try rw [hVk7])
 clear hVk7
 have HSs := Lib.hid (ho.sw.ext hbVk7)
 clear ho
 have Bk8 := zbt Bk6 hbVk7
 clear hbVk7
 have zks := ks.lt
 obtain ⟨q0, q1, q2, q3, q4, q5, q6, q7, q8, q9, q10⟩ := zc11 ks
 have hCk9 := Hinders_any ⟨ak1_0, ck1_0, ak1_1, ck1_1, ak1_2, ck1_2, ak1_3, ck1_3, ak1_4, ck1_4, ak1_5, ck1_5, ak1_6, ck1_6, ak1_7, ck1_7⟩ kn0 Vk7 (SwA.of HSs.out kn_ok0 kn_l0) (HTZ.out.ext HW0 Bk8)
 rw [kn_h0] at hCk9
 (try dsimp only at hCk9)
 replace hCk9 := Lib.hid hCk9
 go_wp2_with fail
 refine hCk9.out.mono ?_
 rintro ek11 wk10 ⟨lA, lc, rfl, _, hbk12⟩
 clear zks q0 q1 q2 q3 q4 q5 q6 q7 q8 q9 q10
 replace ks := ks.below_ hbk12 ks.lt
 replace HSs := Lib.hid (HSs.out.ext hbk12)
 have Bk13 := zbt Bk8 hbk12
 clear hbk12 hCk9
 (try unfold swV swC)
 (try dsimp only)
 rw [show ([] : List Int).length = 0 from rfl]
 have hHWk15 : ∀ V, Below wk10.heap.size wk10 V → _ := fun V hV => WriteOut_any ⟨ak1_0, ck1_0, ak1_1, ck1_1, ak1_2, ck1_2, ak1_3, ck1_3, ak1_4, ck1_4, ak1_5, ck1_5, ak1_6, ck1_6, ak1_7, ck1_7⟩ kn0 5 2 xC V (SwA.of (HSs.out.ext hV) kn_ok0 kn_l0) (HTZ.out.ext HW0 (Bk13.trans (hV.mono Bk13.size)))
 rw [kn_w1] at hHWk15
 have HWk15 := Lib.hid hHWk15
 clear hHWk15
 go_wp2_with fail
 refine zrg [1, 1, 2, 0, 0, 0, 0, 2, 3, 0, 0] [[], [], [], [2], [3], [3], [3], [], [], [5], [6]] [.kn ?_, .kn (.agg (zkk 1 2 3 4 5 6 7 9223372036854775808).toArray), .has (SwF kn1 [.int .i64 0, .int .i64 0]), .fn [2] fst_, .fn [3] (fun l => tupAt (fst_ l) 0), .fn [3] (fun l => tupAt (fst_ l) 1), .fn [3] (fun l => tupAt (fst_ l) 2), .has (VarN 35 zkz), .late, .fn [5] fst_, .fn [6] fst_] [8] (lts_kn (lts_kn (lts_has (SwF.lasts kn1 [.int .i64 0, .int .i64 0]) (lts_fn (lts_fn (lts_fn (lts_fn (lts_has (VarN.lasts 35 zkz) (lts_late (lts_fn (lts_fn lts_nil))))))))))) (fun W0 hb0 hz0 => ?_)
 rotate_left 1
 have kW := ks.below_ hb0 ks.lt
 have zW := kW.lt
 obtain ⟨p0, p1, p2, p3, p4, p5, p6, p7, p8, p9, p10⟩ := zc11 kW
 refine zqT (fun w hbw hd => ?_) ?_
 ·have r0 := cell_keep hbw p0 zW
  have r1 := cell_keep hbw p1 zW
  have r2 := cell_keep hbw p2 zW
  have r3 := cell_keep hbw p3 zW
  have r4 := cell_keep hbw p4 zW
  have r5 := cell_keep hbw p5 zW
  have r6 := cell_keep hbw p6 zW
  have r7 := cell_keep hbw p7 zW
  have r8 := cell_keep hbw p8 zW
  have r9 := cell_keep hbw p9 zW
  have r10 := cell_keep hbw p10 zW
  exact zgs
 refine zqc (fun w hbw hd K Q' hK => ?_) ?_
 ·clear hd
  go_simp
  refine (x_any _).mono ?_
  rintro e y ⟨rfl, hy⟩
  unfold ctV ctC xC
  dsimp only
  go_wp2_with fail
  exact hK.out _ _ _ zpt zbm rfl
 refine zqh (fun w hbw hd K Q' hK => ?_) (fun vwa2 => ?_)
 ·clear hd
  go_simp
  refine (HWk15.out _ (hb0.trans (hbw.mono hb0.size))).mono ?_
  rintro e y ⟨⟨ak14_0, ck14_0, ak14_1, ck14_1, ak14_2, ck14_2, ak14_3, ck14_3, ak14_4, ck14_4, ak14_5, ck14_5, ak14_6, ck14_6, ak14_7, ck14_7⟩, rfl, ho, hy⟩
  unfold swV swC
  go_wp2_with fail
  exact hK.out (.tuple #[.agg (zkx kn1 ak14_0 ck14_0 ak14_1 ck14_1 ak14_2 ck14_2 ak14_3 ck14_3 ak14_4 ck14_4 ak14_5 ck14_5 ak14_6 ck14_6 ak14_7 ck14_7).toArray, .int .i64 0, .int .i64 0]) _ _ zpt zbm ⟨⟨ak14_0, ck14_0, ak14_1, ck14_1, ak14_2, ck14_2, ak14_3, ck14_3, ak14_4, ck14_4, ak14_5, ck14_5, ak14_6, ck14_6, ak14_7, ck14_7⟩, rfl, ho⟩
 refine zqf (vwa2) ?_
 refine zqF (tupAt (vwa2) 0) (fun w0 hd w => ?_) ?_
 ·obtain ⟨_, _, ⟨ak14_0, ck14_0, ak14_1, ck14_1, ak14_2, ck14_2, ak14_3, ck14_3, ak14_4, ck14_4, ak14_5, ck14_5, ak14_6, ck14_6, ak14_7, ck14_7⟩, rfl, _⟩ : ∃ lo hi, SwF kn1 [.int .i64 0, .int .i64 0] vwa2 lo hi w0 := hd 2 _ _ (by kernel_rfl) rfl rfl
  unfold swV swC
  exact zsr
 refine zqF (tupAt (vwa2) 1) (fun w0 hd w => ?_) ?_
 ·obtain ⟨_, _, ⟨ak14_0, ck14_0, ak14_1, ck14_1, ak14_2, ck14_2, ak14_3, ck14_3, ak14_4, ck14_4, ak14_5, ck14_5, ak14_6, ck14_6, ak14_7, ck14_7⟩, rfl, _⟩ : ∃ lo hi, SwF kn1 [.int .i64 0, .int .i64 0] vwa2 lo hi w0 := hd 2 _ _ (by kernel_rfl) rfl rfl
  unfold swV swC
  exact zsr
 refine zqF (tupAt (vwa2) 2) (fun w0 hd w => ?_) ?_
 ·obtain ⟨_, _, ⟨ak14_0, ck14_0, ak14_1, ck14_1, ak14_2, ck14_2, ak14_3, ck14_3, ak14_4, ck14_4, ak14_5, ck14_5, ak14_6, ck14_6, ak14_7, ck14_7⟩, rfl, _⟩ : ∃ lo hi, SwF kn1 [.int .i64 0, .int .i64 0] vwa2 lo hi w0 := hd 2 _ _ (by kernel_rfl) rfl rfl
  unfold swV swC
  exact zsr
 refine zqh (fun w hbw hd K Q' hK => ?_) (fun vwa7 => ?_)
 ·clear hd
  go_simp
  exact hK.out (.pointer (some ⟨w.heap.size, 0, none⟩)) _ _ zpt zbm ⟨_, rfl, Blk.new_ rfl rfl, Nat.le_refl _, by simp⟩
 refine zql ?_
 refine zqf (tupAt (vwa2) 1) ?_
 refine zqf (tupAt (vwa2) 2) ?_
 refine chn_end (fun wz lo hi hbz hd hR => ?_)
 obtain ⟨⟨ak14_0, ck14_0, ak14_1, ck14_1, ak14_2, ck14_2, ak14_3, ck14_3, ak14_4, ck14_4, ak14_5, ck14_5, ak14_6, ck14_6, ak14_7, ck14_7⟩, rfl, ho⟩ : SwF kn1 [.int .i64 0, .int .i64 0] vwa2 (lo 2) (hi 2) wz := hd 2 _ _ rfl rfl
 obtain ⟨btk16, rfl, kb, hlo, hhi⟩ : VarN 35 zkz vwa7 (lo 7) (hi 7) wz := hd 7 _ _ rfl rfl
 have hWlo := (hR.2 7 _ rfl).1
 have hsz := hb0.size
 have BZ : Below wk10.heap.size wk10 wz := hb0.trans (hbz.mono hsz)
 clear hd hR p0 p1 p2 p3 p4 p5 p6 p7 p8 p9 p10
 unfold swV swC
 simp only [tupAt, List.getD_cons_succ, List.getD_cons_zero, Array.getD_eq_getD_getElem?, zy5, zy6, zy7, Option.getD_some]
 have zb := kb.lt
 obtain ⟨y0, y1, y2, y3, y4, y5, y6, y7, y8, y9, y10⟩ := zc11 kb
 obtain ⟨yf0, yf1, yf2, yf3, yf4, yf5, yf6, yf7, yf8, yf9, yf10, -⟩ := zf kb
 refine late_one (by simp only [zy5, zy6, zy7]; rfl) (fun K Q' hK => ?_)
 go_simp
 refine hK.out _ ?_
 clear hK K Q'
 obtain ⟨Uk17, hUk17⟩ : ∃ U, setN wz btk16 0 (zkx kn1 ak14_0 ck14_0 ak14_1 ck14_1 ak14_2 ck14_2 ak14_3 ck14_3 ak14_4 ck14_4 ak14_5 ck14_5 ak14_6 ck14_6 ak14_7 ck14_7) = U := ⟨_, rfl⟩
 have hUk17n := zs11 hUk17
 have ka := zsw hUk17 kb
 have HSa := Lib.hid (ho.farT kb (zkx kn1 ak14_0 ck14_0 ak14_1 ck14_1 ak14_2 ck14_2 ak14_3 ck14_3 ak14_4 ck14_4 ak14_5 ck14_5 ak14_6 ck14_6 ak14_7 ck14_7)).sw
 rw [hUk17] at HSa
 have hbUk17 := zbw hUk17 BZ (by omega)
 rw [hUk17n]
 clear hUk17n hUk17 ho kb zb hlo hhi hWlo hb0 hz0 hbz BZ zW kW hsz y0 yf0 y1 yf1 y2 yf2 y3 yf3 y4 yf4 y5 yf5 y6 yf6 y7 yf7 y8 yf8 y9 yf9 y10 yf10
 replace ks := ks.below_ hbUk17 ks.lt
 replace HSs := Lib.hid (HSs.out.ext hbUk17)
 have Bk18 := zbt Bk13 hbUk17
 clear hbUk17 HWk15
 have hHWk20 : ∀ V, Below Uk17.heap.size Uk17 V → _ := fun V hV => WriteOut_any ⟨ak14_0, ck14_0, ak14_1, ck14_1, ak14_2, ck14_2, ak14_3, ck14_3, ak14_4, ck14_4, ak14_5, ck14_5, ak14_6, ck14_6, ak14_7, ck14_7⟩ kn1 6 1 xC V (SwA.of (HSa.out.ext hV) kn_ok1 kn_l1) (HTZ.out.ext HW0 (Bk18.trans (hV.mono Bk18.size)))
 rw [kn_e1] at hHWk20
 have HWk20 := Lib.hid hHWk20
 clear hHWk20
 go_wp2_with fail
 refine zrg [1, 1, 2, 0, 0, 0, 0, 2, 3, 0, 0] [[], [], [], [2], [3], [3], [3], [], [], [5], [6]] [.kn ?_, .kn (.agg (zkk 1 2 3 4 5 6 7 9223372036854775808).toArray), .has (SwF Swp.zero [.int .i64 0, .int .i64 5]), .fn [2] fst_, .fn [3] (fun l => tupAt (fst_ l) 0), .fn [3] (fun l => tupAt (fst_ l) 1), .fn [3] (fun l => tupAt (fst_ l) 2), .has (VarN 35 zkz), .late, .fn [5] fst_, .fn [6] fst_] [8] (lts_kn (lts_kn (lts_has (SwF.lasts Swp.zero [.int .i64 0, .int .i64 5]) (lts_fn (lts_fn (lts_fn (lts_fn (lts_has (VarN.lasts 35 zkz) (lts_late (lts_fn (lts_fn lts_nil))))))))))) (fun W0 hb0 hz0 => ?_)
 rotate_left 1
 have kW := ka.below_ hb0 ka.lt
 have zW := kW.lt
 obtain ⟨p0, p1, p2, p3, p4, p5, p6, p7, p8, p9, p10⟩ := zc11 kW
 refine zqT (fun w hbw hd => ?_) ?_
 ·have r0 := cell_keep hbw p0 zW
  have r1 := cell_keep hbw p1 zW
  have r2 := cell_keep hbw p2 zW
  have r3 := cell_keep hbw p3 zW
  have r4 := cell_keep hbw p4 zW
  have r5 := cell_keep hbw p5 zW
  have r6 := cell_keep hbw p6 zW
  have r7 := cell_keep hbw p7 zW
  have r8 := cell_keep hbw p8 zW
  have r9 := cell_keep hbw p9 zW
  have r10 := cell_keep hbw p10 zW
  exact zgs
 refine zqc (fun w hbw hd K Q' hK => ?_) ?_
 ·clear hd
  go_simp
  refine (x_any _).mono ?_
  rintro e y ⟨rfl, hy⟩
  unfold ctV ctC xC
  dsimp only
  go_wp2_with fail
  exact hK.out _ _ _ zpt zbm rfl
 refine zqh (fun w hbw hd K Q' hK => ?_) (fun vwb2 => ?_)
 ·clear hd
  go_simp
  refine (HWk20.out _ (hb0.trans (hbw.mono hb0.size))).mono ?_
  rintro e y ⟨⟨ak19_0, ck19_0, ak19_1, ck19_1, ak19_2, ck19_2, ak19_3, ck19_3, ak19_4, ck19_4, ak19_5, ck19_5, ak19_6, ck19_6, ak19_7, ck19_7⟩, rfl, ho, hy⟩
  unfold swV swC
  go_wp2_with fail
  exact hK.out (.tuple #[.agg (zkx Swp.zero ak19_0 ck19_0 ak19_1 ck19_1 ak19_2 ck19_2 ak19_3 ck19_3 ak19_4 ck19_4 ak19_5 ck19_5 ak19_6 ck19_6 ak19_7 ck19_7).toArray, .int .i64 0, .int .i64 5]) _ _ zpt zbm ⟨⟨ak19_0, ck19_0, ak19_1, ck19_1, ak19_2, ck19_2, ak19_3, ck19_3, ak19_4, ck19_4, ak19_5, ck19_5, ak19_6, ck19_6, ak19_7, ck19_7⟩, rfl, ho⟩
 refine zqf (vwb2) ?_
 refine zqF (tupAt (vwb2) 0) (fun w0 hd w => ?_) ?_
 ·obtain ⟨_, _, ⟨ak19_0, ck19_0, ak19_1, ck19_1, ak19_2, ck19_2, ak19_3, ck19_3, ak19_4, ck19_4, ak19_5, ck19_5, ak19_6, ck19_6, ak19_7, ck19_7⟩, rfl, _⟩ : ∃ lo hi, SwF Swp.zero [.int .i64 0, .int .i64 5] vwb2 lo hi w0 := hd 2 _ _ (by kernel_rfl) rfl rfl
  unfold swV swC
  exact zsr
 refine zqF (tupAt (vwb2) 1) (fun w0 hd w => ?_) ?_
 ·obtain ⟨_, _, ⟨ak19_0, ck19_0, ak19_1, ck19_1, ak19_2, ck19_2, ak19_3, ck19_3, ak19_4, ck19_4, ak19_5, ck19_5, ak19_6, ck19_6, ak19_7, ck19_7⟩, rfl, _⟩ : ∃ lo hi, SwF Swp.zero [.int .i64 0, .int .i64 5] vwb2 lo hi w0 := hd 2 _ _ (by kernel_rfl) rfl rfl
  unfold swV swC
  exact zsr
 refine zqF (tupAt (vwb2) 2) (fun w0 hd w => ?_) ?_
 ·obtain ⟨_, _, ⟨ak19_0, ck19_0, ak19_1, ck19_1, ak19_2, ck19_2, ak19_3, ck19_3, ak19_4, ck19_4, ak19_5, ck19_5, ak19_6, ck19_6, ak19_7, ck19_7⟩, rfl, _⟩ : ∃ lo hi, SwF Swp.zero [.int .i64 0, .int .i64 5] vwb2 lo hi w0 := hd 2 _ _ (by kernel_rfl) rfl rfl
  unfold swV swC
  exact zsr
 refine zqh (fun w hbw hd K Q' hK => ?_) (fun vwb7 => ?_)
 ·clear hd
  go_simp
  exact hK.out (.pointer (some ⟨w.heap.size, 0, none⟩)) _ _ zpt zbm ⟨_, rfl, Blk.new_ rfl rfl, Nat.le_refl _, by simp⟩
 refine zql ?_
 refine zqf (tupAt (vwb2) 1) ?_
 refine zqf (tupAt (vwb2) 2) ?_
 refine chn_end (fun wz lo hi hbz hd hR => ?_)
 obtain ⟨⟨ak19_0, ck19_0, ak19_1, ck19_1, ak19_2, ck19_2, ak19_3, ck19_3, ak19_4, ck19_4, ak19_5, ck19_5, ak19_6, ck19_6, ak19_7, ck19_7⟩, rfl, ho⟩ : SwF Swp.zero [.int .i64 0, .int .i64 5] vwb2 (lo 2) (hi 2) wz := hd 2 _ _ rfl rfl
 obtain ⟨btk21, rfl, kb, hlo, hhi⟩ : VarN 35 zkz vwb7 (lo 7) (hi 7) wz := hd 7 _ _ rfl rfl
 have hWlo := (hR.2 7 _ rfl).1
 have hsz := hb0.size
 have BZ : Below Uk17.heap.size Uk17 wz := hb0.trans (hbz.mono hsz)
 clear hd hR p0 p1 p2 p3 p4 p5 p6 p7 p8 p9 p10
 unfold swV swC
 simp only [tupAt, List.getD_cons_succ, List.getD_cons_zero, Array.getD_eq_getD_getElem?, zy5, zy6, zy7, Option.getD_some]
 have zb := kb.lt
 obtain ⟨y0, y1, y2, y3, y4, y5, y6, y7, y8, y9, y10⟩ := zc11 kb
 obtain ⟨yf0, yf1, yf2, yf3, yf4, yf5, yf6, yf7, yf8, yf9, yf10, -⟩ := zf kb
 refine late_one (by simp only [zy5, zy6, zy7]; rfl) (fun K Q' hK => ?_)
 go_simp
 refine hK.out _ ?_
 clear hK K Q'
 obtain ⟨Uk22, hUk22⟩ : ∃ U, setN wz btk21 0 (zkx Swp.zero ak19_0 ck19_0 ak19_1 ck19_1 ak19_2 ck19_2 ak19_3 ck19_3 ak19_4 ck19_4 ak19_5 ck19_5 ak19_6 ck19_6 ak19_7 ck19_7) = U := ⟨_, rfl⟩
 have hUk22n := zs11 hUk22
 have ky1 := zsw hUk22 kb
 have HSy1 := Lib.hid (ho.farT kb (zkx Swp.zero ak19_0 ck19_0 ak19_1 ck19_1 ak19_2 ck19_2 ak19_3 ck19_3 ak19_4 ck19_4 ak19_5 ck19_5 ak19_6 ck19_6 ak19_7 ck19_7)).sw
 rw [hUk22] at HSy1
 have hbUk22 := zbw hUk22 BZ (by omega)
 rw [hUk22n]
 clear hUk22n hUk22 ho kb zb hlo hhi hWlo hb0 hz0 hbz BZ zW kW hsz y0 yf0 y1 yf1 y2 yf2 y3 yf3 y4 yf4 y5 yf5 y6 yf6 y7 yf7 y8 yf8 y9 yf9 y10 yf10
 replace ks := ks.below_ hbUk22 ks.lt
 replace HSs := Lib.hid (HSs.out.ext hbUk22)
 replace ka := ka.below_ hbUk22 ka.lt
 replace HSa := Lib.hid (HSa.out.ext hbUk22)
 have Bk23 := zbt Bk18 hbUk22
 clear hbUk22 HWk20
 have hHWk25 : ∀ V, Below Uk22.heap.size Uk22 V → _ := fun V hV => WriteOut_any ⟨ak14_0, ck14_0, ak14_1, ck14_1, ak14_2, ck14_2, ak14_3, ck14_3, ak14_4, ck14_4, ak14_5, ck14_5, ak14_6, ck14_6, ak14_7, ck14_7⟩ kn1 5 1 xC V (SwA.of (HSa.out.ext hV) kn_ok1 kn_l1) (HTZ.out.ext HW0 (Bk23.trans (hV.mono Bk23.size)))
 rw [kn_e2] at hHWk25
 have HWk25 := Lib.hid hHWk25
 clear hHWk25
 go_wp2_with fail
 refine zrg [1, 1, 2, 0, 0, 0, 0, 2, 3, 0, 0] [[], [], [], [2], [3], [3], [3], [], [], [5], [6]] [.kn ?_, .kn (.agg (zkk 1 2 3 4 5 6 7 9223372036854775808).toArray), .has (SwF Swp.zero [.int .i64 0, .int .i64 10]), .fn [2] fst_, .fn [3] (fun l => tupAt (fst_ l) 0), .fn [3] (fun l => tupAt (fst_ l) 1), .fn [3] (fun l => tupAt (fst_ l) 2), .has (VarN 35 zkz), .late, .fn [5] fst_, .fn [6] fst_] [8] (lts_kn (lts_kn (lts_has (SwF.lasts Swp.zero [.int .i64 0, .int .i64 10]) (lts_fn (lts_fn (lts_fn (lts_fn (lts_has (VarN.lasts 35 zkz) (lts_late (lts_fn (lts_fn lts_nil))))))))))) (fun W0 hb0 hz0 => ?_)
 rotate_left 1
 have kW := ka.below_ hb0 ka.lt
 have zW := kW.lt
 obtain ⟨p0, p1, p2, p3, p4, p5, p6, p7, p8, p9, p10⟩ := zc11 kW
 refine zqT (fun w hbw hd => ?_) ?_
 ·have r0 := cell_keep hbw p0 zW
  have r1 := cell_keep hbw p1 zW
  have r2 := cell_keep hbw p2 zW
  have r3 := cell_keep hbw p3 zW
  have r4 := cell_keep hbw p4 zW
  have r5 := cell_keep hbw p5 zW
  have r6 := cell_keep hbw p6 zW
  have r7 := cell_keep hbw p7 zW
  have r8 := cell_keep hbw p8 zW
  have r9 := cell_keep hbw p9 zW
  have r10 := cell_keep hbw p10 zW
  exact zgs
 refine zqc (fun w hbw hd K Q' hK => ?_) ?_
 ·clear hd
  go_simp
  refine (x_any _).mono ?_
  rintro e y ⟨rfl, hy⟩
  unfold ctV ctC xC
  dsimp only
  go_wp2_with fail
  exact hK.out _ _ _ zpt zbm rfl
 refine zqh (fun w hbw hd K Q' hK => ?_) (fun vwc2 => ?_)
 ·clear hd
  go_simp
  refine (HWk25.out _ (hb0.trans (hbw.mono hb0.size))).mono ?_
  rintro e y ⟨⟨ak24_0, ck24_0, ak24_1, ck24_1, ak24_2, ck24_2, ak24_3, ck24_3, ak24_4, ck24_4, ak24_5, ck24_5, ak24_6, ck24_6, ak24_7, ck24_7⟩, rfl, ho, hy⟩
  unfold swV swC
  go_wp2_with fail
  exact hK.out (.tuple #[.agg (zkx Swp.zero ak24_0 ck24_0 ak24_1 ck24_1 ak24_2 ck24_2 ak24_3 ck24_3 ak24_4 ck24_4 ak24_5 ck24_5 ak24_6 ck24_6 ak24_7 ck24_7).toArray, .int .i64 0, .int .i64 10]) _ _ zpt zbm ⟨⟨ak24_0, ck24_0, ak24_1, ck24_1, ak24_2, ck24_2, ak24_3, ck24_3, ak24_4, ck24_4, ak24_5, ck24_5, ak24_6, ck24_6, ak24_7, ck24_7⟩, rfl, ho⟩
 refine zqf (vwc2) ?_
 refine zqF (tupAt (vwc2) 0) (fun w0 hd w => ?_) ?_
 ·obtain ⟨_, _, ⟨ak24_0, ck24_0, ak24_1, ck24_1, ak24_2, ck24_2, ak24_3, ck24_3, ak24_4, ck24_4, ak24_5, ck24_5, ak24_6, ck24_6, ak24_7, ck24_7⟩, rfl, _⟩ : ∃ lo hi, SwF Swp.zero [.int .i64 0, .int .i64 10] vwc2 lo hi w0 := hd 2 _ _ (by kernel_rfl) rfl rfl
  unfold swV swC
  exact zsr
 refine zqF (tupAt (vwc2) 1) (fun w0 hd w => ?_) ?_
 ·obtain ⟨_, _, ⟨ak24_0, ck24_0, ak24_1, ck24_1, ak24_2, ck24_2, ak24_3, ck24_3, ak24_4, ck24_4, ak24_5, ck24_5, ak24_6, ck24_6, ak24_7, ck24_7⟩, rfl, _⟩ : ∃ lo hi, SwF Swp.zero [.int .i64 0, .int .i64 10] vwc2 lo hi w0 := hd 2 _ _ (by kernel_rfl) rfl rfl
  unfold swV swC
  exact zsr
 refine zqF (tupAt (vwc2) 2) (fun w0 hd w => ?_) ?_
 ·obtain ⟨_, _, ⟨ak24_0, ck24_0, ak24_1, ck24_1, ak24_2, ck24_2, ak24_3, ck24_3, ak24_4, ck24_4, ak24_5, ck24_5, ak24_6, ck24_6, ak24_7, ck24_7⟩, rfl, _⟩ : ∃ lo hi, SwF Swp.zero [.int .i64 0, .int .i64 10] vwc2 lo hi w0 := hd 2 _ _ (by kernel_rfl) rfl rfl
  unfold swV swC
  exact zsr
 refine zqh (fun w hbw hd K Q' hK => ?_) (fun vwc7 => ?_)
 ·clear hd
  go_simp
  exact hK.out (.pointer (some ⟨w.heap.size, 0, none⟩)) _ _ zpt zbm ⟨_, rfl, Blk.new_ rfl rfl, Nat.le_refl _, by simp⟩
 refine zql ?_
 refine zqf (tupAt (vwc2) 1) ?_
 refine zqf (tupAt (vwc2) 2) ?_
 refine chn_end (fun wz lo hi hbz hd hR => ?_)
 obtain ⟨⟨ak24_0, ck24_0, ak24_1, ck24_1, ak24_2, ck24_2, ak24_3, ck24_3, ak24_4, ck24_4, ak24_5, ck24_5, ak24_6, ck24_6, ak24_7, ck24_7⟩, rfl, ho⟩ : SwF Swp.zero [.int .i64 0, .int .i64 10] vwc2 (lo 2) (hi 2) wz := hd 2 _ _ rfl rfl
 obtain ⟨btk26, rfl, kb, hlo, hhi⟩ : VarN 35 zkz vwc7 (lo 7) (hi 7) wz := hd 7 _ _ rfl rfl
 have hWlo := (hR.2 7 _ rfl).1
 have hsz := hb0.size
 have BZ : Below Uk22.heap.size Uk22 wz := hb0.trans (hbz.mono hsz)
 clear hd hR p0 p1 p2 p3 p4 p5 p6 p7 p8 p9 p10
 unfold swV swC
 simp only [tupAt, List.getD_cons_succ, List.getD_cons_zero, Array.getD_eq_getD_getElem?, zy5, zy6, zy7, Option.getD_some]
 have zb := kb.lt
 obtain ⟨y0, y1, y2, y3, y4, y5, y6, y7, y8, y9, y10⟩ := zc11 kb
 obtain ⟨yf0, yf1, yf2, yf3, yf4, yf5, yf6, yf7, yf8, yf9, yf10, -⟩ := zf kb
 refine late_one (by simp only [zy5, zy6, zy7]; rfl) (fun K Q' hK => ?_)
 go_simp
 refine hK.out _ ?_
 clear hK K Q'
 obtain ⟨Uk27, hUk27⟩ : ∃ U, setN wz btk26 0 (zkx Swp.zero ak24_0 ck24_0 ak24_1 ck24_1 ak24_2 ck24_2 ak24_3 ck24_3 ak24_4 ck24_4 ak24_5 ck24_5 ak24_6 ck24_6 ak24_7 ck24_7) = U := ⟨_, rfl⟩
 have hUk27n := zs11 hUk27
 have ky2 := zsw hUk27 kb
 have HSy2 := Lib.hid (ho.farT kb (zkx Swp.zero ak24_0 ck24_0 ak24_1 ck24_1 ak24_2 ck24_2 ak24_3 ck24_3 ak24_4 ck24_4 ak24_5 ck24_5 ak24_6 ck24_6 ak24_7 ck24_7)).sw
 rw [hUk27] at HSy2
 have hbUk27 := zbw hUk27 BZ (by omega)
 rw [hUk27n]
 clear hUk27n hUk27 ho kb zb hlo hhi hWlo hb0 hz0 hbz BZ zW kW hsz y0 yf0 y1 yf1 y2 yf2 y3 yf3 y4 yf4 y5 yf5 y6 yf6 y7 yf7 y8 yf8 y9 yf9 y10 yf10
 replace ka := ka.below_ hbUk27 ka.lt
 replace HSa := Lib.hid (HSa.out.ext hbUk27)
 have Bk28 := zbt Bk23 hbUk27
 clear hbUk27 HWk25
 have zka := ka.lt
 obtain ⟨q0, q1, q2, q3, q4, q5, q6, q7, q8, q9, q10⟩ := zc11 ka
 have hCk30 := ReadIn_any ⟨ak14_0, ck14_0, ak14_1, ck14_1, ak14_2, ck14_2, ak14_3, ck14_3, ak14_4, ck14_4, ak14_5, ck14_5, ak14_6, ck14_6, ak14_7, ck14_7⟩ kn1 0 7 1 Uk27 (SwA.of HSa.out kn_ok1 kn_l1) (HTZ.out.ext HW0 Bk28)
 rw [kn_e3] at hCk30
 (try dsimp only at hCk30)
 replace hCk30 := Lib.hid hCk30
 go_wp2_with fail
 refine hCk30.out.mono ?_
 rintro ek32 wk31 ⟨⟨ak29_0, ck29_0, ak29_1, ck29_1, ak29_2, ck29_2, ak29_3, ck29_3, ak29_4, ck29_4, ak29_5, ck29_5, ak29_6, ck29_6, ak29_7, ck29_7⟩, rfl, ho, hbk33⟩
 clear zka q0 q1 q2 q3 q4 q5 q6 q7 q8 q9 q10
 replace ka := ka.below_ hbk33 ka.lt
 replace HSa := Lib.hid (HSa.out.ext hbk33)
 have Bk34 := zbt Bk28 hbk33
 clear hbk33 hCk30
 (try unfold swV swC)
 (try dsimp only)
 go_upto_region 7 with fail
 obtain ⟨Vk35, hVk35⟩ : ∃ V, wk31.alloc (.cells (zkx Swp.zero ak29_0 ck29_0 ak29_1 ck29_1 ak29_2 ck29_2 ak29_3 ck29_3 ak29_4 ck29_4 ak29_5 ck29_5 ak29_6 ck29_6 ak29_7 ck29_7).toArray 35) = V := ⟨_, rfl⟩
 have ky3 := za hVk35
 have hbVk35 := zab hVk35
 (try rw [hVk35])
 clear hVk35
 have HSy3 := Lib.hid (ho.sw.ext hbVk35)
 clear ho
 replace ka := ka.below_ hbVk35 ka.lt
 replace HSa := Lib.hid (HSa.out.ext hbVk35)
 have Bk36 := zbt Bk34 hbVk35
 clear hbVk35
 have zka := ka.lt
 obtain ⟨q0, q1, q2, q3, q4, q5, q6, q7, q8, q9, q10⟩ := zc11 ka
 have hCk38 := SwClaim_any ⟨ak14_0, ck14_0, ak14_1, ck14_1, ak14_2, ck14_2, ak14_3, ck14_3, ak14_4, ck14_4, ak14_5, ck14_5, ak14_6, ck14_6, ak14_7, ck14_7⟩ kn1 0 3 Vk35 (SwA.of HSa.out kn_ok1 kn_l1) (HTZ.out.ext HW0 Bk36)
 rw [kn_c2] at hCk38
 (try dsimp only at hCk38)
 replace hCk38 := Lib.hid hCk38
 go_wp2_with fail
 refine hCk38.out.mono ?_
 rintro ek40 wk39 ⟨⟨ak37_0, ck37_0, ak37_1, ck37_1, ak37_2, ck37_2, ak37_3, ck37_3, ak37_4, ck37_4, ak37_5, ck37_5, ak37_6, ck37_6, ak37_7, ck37_7⟩, rfl, ho, hbk41⟩
 clear zka q0 q1 q2 q3 q4 q5 q6 q7 q8 q9 q10
 replace ka := ka.below_ hbk41 ka.lt
 replace HSa := Lib.hid (HSa.out.ext hbk41)
 have Bk42 := zbt Bk36 hbk41
 clear hbk41 hCk38
 (try unfold swV swC)
 (try dsimp only)
 go_upto_region 8 with fail
 obtain ⟨Vk43, hVk43⟩ : ∃ V, wk39.alloc (.cells (zkx kn2 ak37_0 ck37_0 ak37_1 ck37_1 ak37_2 ck37_2 ak37_3 ck37_3 ak37_4 ck37_4 ak37_5 ck37_5 ak37_6 ck37_6 ak37_7 ck37_7).toArray 35) = V := ⟨_, rfl⟩
 have kb := za hVk43
 have hbVk43 := zab hVk43
 (try rw [hVk43])
 clear hVk43
 have HSb := Lib.hid (ho.sw.ext hbVk43)
 clear ho
 replace ka := ka.below_ hbVk43 ka.lt
 replace HSa := Lib.hid (HSa.out.ext hbVk43)
 have Bk44 := zbt Bk42 hbVk43
 clear hbVk43
 have zkb := kb.lt
 obtain ⟨q0, q1, q2, q3, q4, q5, q6, q7, q8, q9, q10⟩ := zc11 kb
 have hCk46 := SwClaim_any ⟨ak37_0, ck37_0, ak37_1, ck37_1, ak37_2, ck37_2, ak37_3, ck37_3, ak37_4, ck37_4, ak37_5, ck37_5, ak37_6, ck37_6, ak37_7, ck37_7⟩ kn2 0 4 Vk43 (SwA.of HSb.out kn_ok2 kn_l2) (HTZ.out.ext HW0 Bk44)
 rw [kn_e4] at hCk46
 (try dsimp only at hCk46)
 replace hCk46 := Lib.hid hCk46
 go_wp2_with fail
 refine hCk46.out.mono ?_
 rintro ek48 wk47 ⟨⟨ak45_0, ck45_0, ak45_1, ck45_1, ak45_2, ck45_2, ak45_3, ck45_3, ak45_4, ck45_4, ak45_5, ck45_5, ak45_6, ck45_6, ak45_7, ck45_7⟩, rfl, ho, hbk49⟩
 clear zkb q0 q1 q2 q3 q4 q5 q6 q7 q8 q9 q10
 replace kb := kb.below_ hbk49 kb.lt
 replace HSb := Lib.hid (HSb.out.ext hbk49)
 have Bk50 := zbt Bk44 hbk49
 clear hbk49 hCk46
 (try unfold swV swC)
 (try dsimp only)
 go_upto_region 9 with fail
 obtain ⟨Vk51, hVk51⟩ : ∃ V, wk47.alloc (.cells (zkx Swp.zero ak45_0 ck45_0 ak45_1 ck45_1 ak45_2 ck45_2 ak45_3 ck45_3 ak45_4 ck45_4 ak45_5 ck45_5 ak45_6 ck45_6 ak45_7 ck45_7).toArray 35) = V := ⟨_, rfl⟩
 have ky4 := za hVk51
 have hbVk51 := zab hVk51
 (try rw [hVk51])
 clear hVk51
 have HSy4 := Lib.hid (ho.sw.ext hbVk51)
 clear ho
 replace kb := kb.below_ hbVk51 kb.lt
 replace HSb := Lib.hid (HSb.out.ext hbVk51)
 have Bk52 := zbt Bk50 hbVk51
 clear hbVk51
 have zkb := kb.lt
 obtain ⟨q0, q1, q2, q3, q4, q5, q6, q7, q8, q9, q10⟩ := zc11 kb
 have hCk54 := SwClaim_any ⟨ak37_0, ck37_0, ak37_1, ck37_1, ak37_2, ck37_2, ak37_3, ck37_3, ak37_4, ck37_4, ak37_5, ck37_5, ak37_6, ck37_6, ak37_7, ck37_7⟩ kn2 1 4 Vk51 (SwA.of HSb.out kn_ok2 kn_l2) (HTZ.out.ext HW0 Bk52)
 rw [kn_e5] at hCk54
 (try dsimp only at hCk54)
 replace hCk54 := Lib.hid hCk54
 go_wp2_with fail
 refine hCk54.out.mono ?_
 rintro ek56 wk55 ⟨⟨ak53_0, ck53_0, ak53_1, ck53_1, ak53_2, ck53_2, ak53_3, ck53_3, ak53_4, ck53_4, ak53_5, ck53_5, ak53_6, ck53_6, ak53_7, ck53_7⟩, rfl, ho, hbk57⟩
 clear zkb q0 q1 q2 q3 q4 q5 q6 q7 q8 q9 q10
 replace kb := kb.below_ hbk57 kb.lt
 replace HSb := Lib.hid (HSb.out.ext hbk57)
 have Bk58 := zbt Bk52 hbk57
 clear hbk57 hCk54
 (try unfold swV swC)
 (try dsimp only)
 go_upto_region 10 with fail
 obtain ⟨Vk59, hVk59⟩ : ∃ V, wk55.alloc (.cells (zkx Swp.zero ak53_0 ck53_0 ak53_1 ck53_1 ak53_2 ck53_2 ak53_3 ck53_3 ak53_4 ck53_4 ak53_5 ck53_5 ak53_6 ck53_6 ak53_7 ck53_7).toArray 35) = V := ⟨_, rfl⟩
 have ky5 := za hVk59
 have hbVk59 := zab hVk59
 (try rw [hVk59])
 clear hVk59
 have HSy5 := Lib.hid (ho.sw.ext hbVk59)
 clear ho
 replace kb := kb.below_ hbVk59 kb.lt
 replace HSb := Lib.hid (HSb.out.ext hbVk59)
 have Bk60 := zbt Bk58 hbVk59
 clear hbVk59
 have zkb := kb.lt
 obtain ⟨q0, q1, q2, q3, q4, q5, q6, q7, q8, q9, q10⟩ := zc11 kb
 have hCk62 := Complete_any ⟨ak37_0, ck37_0, ak37_1, ck37_1, ak37_2, ck37_2, ak37_3, ck37_3, ak37_4, ck37_4, ak37_5, ck37_5, ak37_6, ck37_6, ak37_7, ck37_7⟩ kn2 1 Vk59 (SwA.of HSb.out kn_ok2 kn_l2) (HTZ.out.ext HW0 Bk60)
 rw [kn_e6] at hCk62
 (try dsimp only at hCk62)
 replace hCk62 := Lib.hid hCk62
 go_wp2_with fail
 refine hCk62.out.mono ?_
 rintro ek64 wk63 ⟨⟨ak61_0, ck61_0, ak61_1, ck61_1, ak61_2, ck61_2, ak61_3, ck61_3, ak61_4, ck61_4, ak61_5, ck61_5, ak61_6, ck61_6, ak61_7, ck61_7⟩, rfl, ho, hbk65⟩
 clear zkb q0 q1 q2 q3 q4 q5 q6 q7 q8 q9 q10
 replace kb := kb.below_ hbk65 kb.lt
 replace HSb := Lib.hid (HSb.out.ext hbk65)
 have Bk66 := zbt Bk60 hbk65
 clear hbk65 hCk62
 (try unfold swV swC)
 (try dsimp only)
 unfold dnV dnC ctC
 (try dsimp only)
 go_upto_region 11 with fail
 obtain ⟨Vk67, hVk67⟩ : ∃ V, (wk63.alloc (.cells (zkx Swp.zero ak61_0 ck61_0 ak61_1 ck61_1 ak61_2 ck61_2 ak61_3 ck61_3 ak61_4 ck61_4 ak61_5 ck61_5 ak61_6 ck61_6 ak61_7 ck61_7).toArray 35)).alloc (.cells (zkn Dn.zero.job.wr Dn.zero.job.slot Dn.zero.job.frame Dn.zero.proc Dn.zero.job.data.c0 Dn.zero.job.data.c1 Dn.zero.job.data.c2 Dn.zero.job.data.c3 Dn.zero.job.data.c4 Dn.zero.job.data.c5 Dn.zero.job.data.c6 Dn.zero.job.data.c7).toArray 55) = V := ⟨_, rfl⟩
 have ky6 := za1 hVk67
 have kyd := za2 hVk67
 have hbVk67 := zabb hVk67
 (try rw [hVk67])
 clear hVk67
 have HSy6 := Lib.hid (ho.sw.ext hbVk67)
 clear ho
 replace kb := kb.below_ hbVk67 kb.lt
 replace HSb := Lib.hid (HSb.out.ext hbVk67)
 have Bk68 := zbt Bk66 hbVk67
 clear hbVk67
 have zkb := kb.lt
 obtain ⟨q0, q1, q2, q3, q4, q5, q6, q7, q8, q9, q10⟩ := zc11 kb
 have hCk70 := Complete_any ⟨ak37_0, ck37_0, ak37_1, ck37_1, ak37_2, ck37_2, ak37_3, ck37_3, ak37_4, ck37_4, ak37_5, ck37_5, ak37_6, ck37_6, ak37_7, ck37_7⟩ kn2 0 Vk67 (SwA.of HSb.out kn_ok2 kn_l2) (HTZ.out.ext HW0 Bk68)
 rw [kn_c3] at hCk70
 (try dsimp only at hCk70)
 replace hCk70 := Lib.hid hCk70
 go_wp2_with fail
 refine hCk70.out.mono ?_
 rintro ek72 wk71 ⟨⟨ak69_0, ck69_0, ak69_1, ck69_1, ak69_2, ck69_2, ak69_3, ck69_3, ak69_4, ck69_4, ak69_5, ck69_5, ak69_6, ck69_6, ak69_7, ck69_7⟩, rfl, ho, hbk73⟩
 clear zkb q0 q1 q2 q3 q4 q5 q6 q7 q8 q9 q10
 replace kb := kb.below_ hbk73 kb.lt
 replace HSb := Lib.hid (HSb.out.ext hbk73)
 have Bk74 := zbt Bk68 hbk73
 clear hbk73 hCk70
 (try unfold swV swC)
 (try dsimp only)
 unfold dnV dnC kd3 ctC xC
 (try dsimp only)
 go_upto_region 12 with fail
 obtain ⟨Vk75, hVk75⟩ : ∃ V, (wk71.alloc (.cells (zkx kn3 ak69_0 ck69_0 ak69_1 ck69_1 ak69_2 ck69_2 ak69_3 ck69_3 ak69_4 ck69_4 ak69_5 ck69_5 ak69_6 ck69_6 ak69_7 ck69_7).toArray 35)).alloc (.cells (zkn true 0 5 3 1 2 3 4 5 6 7 9223372036854775808).toArray 55) = V := ⟨_, rfl⟩
 have kc := za1 hVk75
 have kd3 := za2 hVk75
 have hbVk75 := zabb hVk75
 (try rw [hVk75])
 clear hVk75
 have HSc := Lib.hid (ho.sw.ext hbVk75)
 clear ho
 replace kb := kb.below_ hbVk75 kb.lt
 replace HSb := Lib.hid (HSb.out.ext hbVk75)
 have Bk76 := zbt Bk74 hbVk75
 clear hbVk75
 go_wp2_with fail
 refine (awake_any _ (HTZ.out.ext HW0 Bk76)).mono ?_
 rintro e wk78 ⟨rfl, hbk77⟩
 replace kc := kc.below_ hbk77 kc.lt
 replace HSc := Lib.hid (HSc.out.ext hbk77)
 have Bk79 := zbt Bk76 hbk77
 clear hbk77
 have zkc := kc.lt
 obtain ⟨q0, q1, q2, q3, q4, q5, q6, q7, q8, q9, q10⟩ := zc11 kc
 have hCk81 := ReadIn_any ⟨ak69_0, ck69_0, ak69_1, ck69_1, ak69_2, ck69_2, ak69_3, ck69_3, ak69_4, ck69_4, ak69_5, ck69_5, ak69_6, ck69_6, ak69_7, ck69_7⟩ kn3 0 7 3 wk78 (SwA.of HSc.out kn_ok3 kn_l3) (HTZ.out.ext HW0 Bk79)
 rw [kn_r4] at hCk81
 (try dsimp only at hCk81)
 replace hCk81 := Lib.hid hCk81
 go_wp2_with fail
 refine hCk81.out.mono ?_
 rintro ek83 wk82 ⟨⟨ak80_0, ck80_0, ak80_1, ck80_1, ak80_2, ck80_2, ak80_3, ck80_3, ak80_4, ck80_4, ak80_5, ck80_5, ak80_6, ck80_6, ak80_7, ck80_7⟩, rfl, ho, hbk84⟩
 clear zkc q0 q1 q2 q3 q4 q5 q6 q7 q8 q9 q10
 replace kc := kc.below_ hbk84 kc.lt
 replace HSc := Lib.hid (HSc.out.ext hbk84)
 have Bk85 := zbt Bk79 hbk84
 clear hbk84 hCk81
 (try unfold swV swC)
 (try dsimp only)
 obtain ⟨q0, q1, q2, q3, q4, q5, q6, q7, q8, q9, q10⟩ := zc11 kc
 obtain ⟨qf0, qf1, qf2, qf3, qf4, qf5, qf6, qf7, qf8, qf9, qf10, -⟩ := zf kc
 have zkc := kc.lt
 go_upto_region 15 with fail
 obtain ⟨Uk86, hUk86⟩ : ∃ U, setN wk82 (wk71.heap.size) 0 (zkx kn4 ak80_0 ck80_0 ak80_1 ck80_1 ak80_2 ck80_2 ak80_3 ck80_3 ak80_4 ck80_4 ak80_5 ck80_5 ak80_6 ck80_6 ak80_7 ck80_7) = U := ⟨_, rfl⟩
 have hUk86n := zs11 hUk86
 have HSc_ := Lib.hid (ho.farT kc (zkx kn4 ak80_0 ck80_0 ak80_1 ck80_1 ak80_2 ck80_2 ak80_3 ck80_3 ak80_4 ck80_4 ak80_5 ck80_5 ak80_6 ck80_6 ak80_7 ck80_7)).sw
 rw [hUk86] at HSc_
 replace kc : Blk Uk86 (wk71.heap.size) 35 (zkx kn4 ak80_0 ck80_0 ak80_1 ck80_1 ak80_2 ck80_2 ak80_3 ck80_3 ak80_4 ck80_4 ak80_5 ck80_5 ak80_6 ck80_6 ak80_7 ck80_7).toArray := by rw [← hUk86]; exact blk_setN kc _ rfl
 have BUk86 := zbw hUk86 Bk85 Bk74.size
 rw [hUk86n]
 clear hUk86n hUk86 ho HSc
 have HSc := HSc_
 clear HSc_
 clear zkc q0 qf0 q1 qf1 q2 qf2 q3 qf3 q4 qf4 q5 qf5 q6 qf6 q7 qf7 q8 qf8 q9 qf9 q10 qf10
 have zkc := kc.lt
 obtain ⟨q0, q1, q2, q3, q4, q5, q6, q7, q8, q9, q10⟩ := zc11 kc
 have hCk88 := Kill_any ⟨ak80_0, ck80_0, ak80_1, ck80_1, ak80_2, ck80_2, ak80_3, ck80_3, ak80_4, ck80_4, ak80_5, ck80_5, ak80_6, ck80_6, ak80_7, ck80_7⟩ kn4 3 Uk86 (SwA.of HSc.out kn_ok4 kn_l4) (HTZ.out.ext HW0 BUk86)
 rw [kn_k5] at hCk88
 (try dsimp only at hCk88)
 replace hCk88 := Lib.hid hCk88
 go_wp2_with fail
 refine hCk88.out.mono ?_
 rintro ek90 wk89 ⟨⟨ak87_0, ck87_0, ak87_1, ck87_1, ak87_2, ck87_2, ak87_3, ck87_3, ak87_4, ck87_4, ak87_5, ck87_5, ak87_6, ck87_6, ak87_7, ck87_7⟩, rfl, ho, hbk91⟩
 clear zkc q0 q1 q2 q3 q4 q5 q6 q7 q8 q9 q10
 replace kc := kc.below_ hbk91 kc.lt
 replace HSc := Lib.hid (HSc.out.ext hbk91)
 have Bk92 := zbt BUk86 hbk91
 clear hbk91 hCk88
 (try unfold swV swC)
 (try dsimp only)
 go_upto_region 16 with fail
 obtain ⟨Vk93, hVk93⟩ : ∃ V, wk89.alloc (.cells (zkx kn5 ak87_0 ck87_0 ak87_1 ck87_1 ak87_2 ck87_2 ak87_3 ck87_3 ak87_4 ck87_4 ak87_5 ck87_5 ak87_6 ck87_6 ak87_7 ck87_7).toArray 35) = V := ⟨_, rfl⟩
 have kd := za hVk93
 have hbVk93 := zab hVk93
 (try rw [hVk93])
 clear hVk93
 have HSd := Lib.hid (ho.sw.ext hbVk93)
 clear ho
 replace kc := kc.below_ hbVk93 kc.lt
 replace HSc := Lib.hid (HSc.out.ext hbVk93)
 have Bk94 := zbt Bk92 hbVk93
 clear hbVk93
 have zkd := kd.lt
 obtain ⟨q0, q1, q2, q3, q4, q5, q6, q7, q8, q9, q10⟩ := zc11 kd
 have hCk96 := Unref_any ⟨ak87_0, ck87_0, ak87_1, ck87_1, ak87_2, ck87_2, ak87_3, ck87_3, ak87_4, ck87_4, ak87_5, ck87_5, ak87_6, ck87_6, ak87_7, ck87_7⟩ kn5 0 Vk93 (SwA.of HSd.out kn_ok5 kn_l5) (HTZ.out.ext HW0 Bk94)
 rw [kn_u6] at hCk96
 (try dsimp only at hCk96)
 replace hCk96 := Lib.hid hCk96
 go_wp2_with fail
 refine hCk96.out.mono ?_
 rintro ek98 wk97 ⟨⟨ak95_0, ck95_0, ak95_1, ck95_1, ak95_2, ck95_2, ak95_3, ck95_3, ak95_4, ck95_4, ak95_5, ck95_5, ak95_6, ck95_6, ak95_7, ck95_7⟩, rfl, ho, hbk99⟩
 clear zkd q0 q1 q2 q3 q4 q5 q6 q7 q8 q9 q10
 replace kd := kd.below_ hbk99 kd.lt
 replace HSd := Lib.hid (HSd.out.ext hbk99)
 have Bk100 := zbt Bk94 hbk99
 clear hbk99 hCk96
 (try unfold swV swC)
 (try dsimp only)
 go_upto_region 17 with fail
 obtain ⟨Vk101, hVk101⟩ : ∃ V, wk97.alloc (.cells (zkx kn6 ak95_0 ck95_0 ak95_1 ck95_1 ak95_2 ck95_2 ak95_3 ck95_3 ak95_4 ck95_4 ak95_5 ck95_5 ak95_6 ck95_6 ak95_7 ck95_7).toArray 35) = V := ⟨_, rfl⟩
 have kt := za hVk101
 have hbVk101 := zab hVk101
 (try rw [hVk101])
 clear hVk101
 have HSt := Lib.hid (ho.sw.ext hbVk101)
 clear ho
 replace kd := kd.below_ hbVk101 kd.lt
 replace HSd := Lib.hid (HSd.out.ext hbVk101)
 have Bk102 := zbt Bk100 hbVk101
 clear hbVk101
 have zkt := kt.lt
 obtain ⟨q0, q1, q2, q3, q4, q5, q6, q7, q8, q9, q10⟩ := zc11 kt
 have hCk104 := Complete_any ⟨ak95_0, ck95_0, ak95_1, ck95_1, ak95_2, ck95_2, ak95_3, ck95_3, ak95_4, ck95_4, ak95_5, ck95_5, ak95_6, ck95_6, ak95_7, ck95_7⟩ kn6 0 Vk101 (SwA.of HSt.out kn_ok6 kn_l6) (HTZ.out.ext HW0 Bk102)
 rw [kn_c7] at hCk104
 (try dsimp only at hCk104)
 replace hCk104 := Lib.hid hCk104
 go_wp2_with fail
 refine hCk104.out.mono ?_
 rintro ek106 wk105 ⟨⟨ak103_0, ck103_0, ak103_1, ck103_1, ak103_2, ck103_2, ak103_3, ck103_3, ak103_4, ck103_4, ak103_5, ck103_5, ak103_6, ck103_6, ak103_7, ck103_7⟩, rfl, ho, hbk107⟩
 clear zkt q0 q1 q2 q3 q4 q5 q6 q7 q8 q9 q10
 replace kt := kt.below_ hbk107 kt.lt
 replace HSt := Lib.hid (HSt.out.ext hbk107)
 have Bk108 := zbt Bk102 hbk107
 clear hbk107 hCk104
 (try unfold swV swC)
 (try dsimp only)
 unfold dnV dnC kd7 ctC xC
 (try dsimp only)
 go_upto_region 18 with fail
 obtain ⟨Vk109, hVk109⟩ : ∃ V, (wk105.alloc (.cells (zkx kn7 ak103_0 ck103_0 ak103_1 ck103_1 ak103_2 ck103_2 ak103_3 ck103_3 ak103_4 ck103_4 ak103_5 ck103_5 ak103_6 ck103_6 ak103_7 ck103_7).toArray 35)).alloc (.cells (zkn false 0 7 0 1 2 3 4 5 6 7 9223372036854775808).toArray 55) = V := ⟨_, rfl⟩
 have ku := za1 hVk109
 have kdn := za2 hVk109
 have hbVk109 := zabb hVk109
 (try rw [hVk109])
 clear hVk109
 have HSu := Lib.hid (ho.sw.ext hbVk109)
 clear ho
 replace kt := kt.below_ hbVk109 kt.lt
 replace HSt := Lib.hid (HSt.out.ext hbVk109)
 have Bk110 := zbt Bk108 hbVk109
 clear hbVk109
 have hHWk112 : ∀ V, Below Vk109.heap.size Vk109 V → _ := fun V hV => WriteOut_any ⟨ak103_0, ck103_0, ak103_1, ck103_1, ak103_2, ck103_2, ak103_3, ck103_3, ak103_4, ck103_4, ak103_5, ck103_5, ak103_6, ck103_6, ak103_7, ck103_7⟩ kn7 8 1 xC V (SwA.of (HSu.out.ext hV) kn_ok7 kn_l7) (HTZ.out.ext HW0 (Bk110.trans (hV.mono Bk110.size)))
 rw [kn_w8] at hHWk112
 have HWk112 := Lib.hid hHWk112
 clear hHWk112
 go_wp2_with fail
 refine zrg [1, 1, 2, 0, 0, 0, 0, 2, 3, 0, 0] [[], [], [], [2], [3], [3], [3], [], [], [5], [6]] [.kn ?_, .kn (.agg (zkk 1 2 3 4 5 6 7 9223372036854775808).toArray), .has (SwF kn8 [.int .i64 0, .int .i64 0]), .fn [2] fst_, .fn [3] (fun l => tupAt (fst_ l) 0), .fn [3] (fun l => tupAt (fst_ l) 1), .fn [3] (fun l => tupAt (fst_ l) 2), .has (VarN 35 zkz), .late, .fn [5] fst_, .fn [6] fst_] [8] (lts_kn (lts_kn (lts_has (SwF.lasts kn8 [.int .i64 0, .int .i64 0]) (lts_fn (lts_fn (lts_fn (lts_fn (lts_has (VarN.lasts 35 zkz) (lts_late (lts_fn (lts_fn lts_nil))))))))))) (fun W0 hb0 hz0 => ?_)
 rotate_left 1
 have kW := ku.below_ hb0 ku.lt
 have zW := kW.lt
 obtain ⟨p0, p1, p2, p3, p4, p5, p6, p7, p8, p9, p10⟩ := zc11 kW
 refine zqT (fun w hbw hd => ?_) ?_
 ·have r0 := cell_keep hbw p0 zW
  have r1 := cell_keep hbw p1 zW
  have r2 := cell_keep hbw p2 zW
  have r3 := cell_keep hbw p3 zW
  have r4 := cell_keep hbw p4 zW
  have r5 := cell_keep hbw p5 zW
  have r6 := cell_keep hbw p6 zW
  have r7 := cell_keep hbw p7 zW
  have r8 := cell_keep hbw p8 zW
  have r9 := cell_keep hbw p9 zW
  have r10 := cell_keep hbw p10 zW
  exact zgs
 refine zqc (fun w hbw hd K Q' hK => ?_) ?_
 ·clear hd
  go_simp
  refine (x_any _).mono ?_
  rintro e y ⟨rfl, hy⟩
  unfold ctV ctC xC
  dsimp only
  go_wp2_with fail
  exact hK.out _ _ _ zpt zbm rfl
 refine zqh (fun w hbw hd K Q' hK => ?_) (fun vwd2 => ?_)
 ·clear hd
  go_simp
  refine (HWk112.out _ (hb0.trans (hbw.mono hb0.size))).mono ?_
  rintro e y ⟨⟨ak111_0, ck111_0, ak111_1, ck111_1, ak111_2, ck111_2, ak111_3, ck111_3, ak111_4, ck111_4, ak111_5, ck111_5, ak111_6, ck111_6, ak111_7, ck111_7⟩, rfl, ho, hy⟩
  unfold swV swC
  go_wp2_with fail
  exact hK.out (.tuple #[.agg (zkx kn8 ak111_0 ck111_0 ak111_1 ck111_1 ak111_2 ck111_2 ak111_3 ck111_3 ak111_4 ck111_4 ak111_5 ck111_5 ak111_6 ck111_6 ak111_7 ck111_7).toArray, .int .i64 0, .int .i64 0]) _ _ zpt zbm ⟨⟨ak111_0, ck111_0, ak111_1, ck111_1, ak111_2, ck111_2, ak111_3, ck111_3, ak111_4, ck111_4, ak111_5, ck111_5, ak111_6, ck111_6, ak111_7, ck111_7⟩, rfl, ho⟩
 refine zqf (vwd2) ?_
 refine zqF (tupAt (vwd2) 0) (fun w0 hd w => ?_) ?_
 ·obtain ⟨_, _, ⟨ak111_0, ck111_0, ak111_1, ck111_1, ak111_2, ck111_2, ak111_3, ck111_3, ak111_4, ck111_4, ak111_5, ck111_5, ak111_6, ck111_6, ak111_7, ck111_7⟩, rfl, _⟩ : ∃ lo hi, SwF kn8 [.int .i64 0, .int .i64 0] vwd2 lo hi w0 := hd 2 _ _ (by kernel_rfl) rfl rfl
  unfold swV swC
  exact zsr
 refine zqF (tupAt (vwd2) 1) (fun w0 hd w => ?_) ?_
 ·obtain ⟨_, _, ⟨ak111_0, ck111_0, ak111_1, ck111_1, ak111_2, ck111_2, ak111_3, ck111_3, ak111_4, ck111_4, ak111_5, ck111_5, ak111_6, ck111_6, ak111_7, ck111_7⟩, rfl, _⟩ : ∃ lo hi, SwF kn8 [.int .i64 0, .int .i64 0] vwd2 lo hi w0 := hd 2 _ _ (by kernel_rfl) rfl rfl
  unfold swV swC
  exact zsr
 refine zqF (tupAt (vwd2) 2) (fun w0 hd w => ?_) ?_
 ·obtain ⟨_, _, ⟨ak111_0, ck111_0, ak111_1, ck111_1, ak111_2, ck111_2, ak111_3, ck111_3, ak111_4, ck111_4, ak111_5, ck111_5, ak111_6, ck111_6, ak111_7, ck111_7⟩, rfl, _⟩ : ∃ lo hi, SwF kn8 [.int .i64 0, .int .i64 0] vwd2 lo hi w0 := hd 2 _ _ (by kernel_rfl) rfl rfl
  unfold swV swC
  exact zsr
 refine zqh (fun w hbw hd K Q' hK => ?_) (fun vwd7 => ?_)
 ·clear hd
  go_simp
  exact hK.out (.pointer (some ⟨w.heap.size, 0, none⟩)) _ _ zpt zbm ⟨_, rfl, Blk.new_ rfl rfl, Nat.le_refl _, by simp⟩
 refine zql ?_
 refine zqf (tupAt (vwd2) 1) ?_
 refine zqf (tupAt (vwd2) 2) ?_
 refine chn_end (fun wz lo hi hbz hd hR => ?_)
 obtain ⟨⟨ak111_0, ck111_0, ak111_1, ck111_1, ak111_2, ck111_2, ak111_3, ck111_3, ak111_4, ck111_4, ak111_5, ck111_5, ak111_6, ck111_6, ak111_7, ck111_7⟩, rfl, ho⟩ : SwF kn8 [.int .i64 0, .int .i64 0] vwd2 (lo 2) (hi 2) wz := hd 2 _ _ rfl rfl
 obtain ⟨btk113, rfl, kb, hlo, hhi⟩ : VarN 35 zkz vwd7 (lo 7) (hi 7) wz := hd 7 _ _ rfl rfl
 have hWlo := (hR.2 7 _ rfl).1
 have hsz := hb0.size
 have BZ : Below Vk109.heap.size Vk109 wz := hb0.trans (hbz.mono hsz)
 clear hd hR p0 p1 p2 p3 p4 p5 p6 p7 p8 p9 p10
 unfold swV swC
 simp only [tupAt, List.getD_cons_succ, List.getD_cons_zero, Array.getD_eq_getD_getElem?, zy5, zy6, zy7, Option.getD_some]
 have zb := kb.lt
 obtain ⟨y0, y1, y2, y3, y4, y5, y6, y7, y8, y9, y10⟩ := zc11 kb
 obtain ⟨yf0, yf1, yf2, yf3, yf4, yf5, yf6, yf7, yf8, yf9, yf10, -⟩ := zf kb
 refine late_one (by simp only [zy5, zy6, zy7]; rfl) (fun K Q' hK => ?_)
 go_simp
 refine hK.out _ ?_
 clear hK K Q'
 obtain ⟨Uk114, hUk114⟩ : ∃ U, setN wz btk113 0 (zkx kn8 ak111_0 ck111_0 ak111_1 ck111_1 ak111_2 ck111_2 ak111_3 ck111_3 ak111_4 ck111_4 ak111_5 ck111_5 ak111_6 ck111_6 ak111_7 ck111_7) = U := ⟨_, rfl⟩
 have hUk114n := zs11 hUk114
 have kv := zsw hUk114 kb
 have HSv := Lib.hid (ho.farT kb (zkx kn8 ak111_0 ck111_0 ak111_1 ck111_1 ak111_2 ck111_2 ak111_3 ck111_3 ak111_4 ck111_4 ak111_5 ck111_5 ak111_6 ck111_6 ak111_7 ck111_7)).sw
 rw [hUk114] at HSv
 have hbUk114 := zbw hUk114 BZ (by omega)
 rw [hUk114n]
 clear hUk114n hUk114 ho kb zb hlo hhi hWlo hb0 hz0 hbz BZ zW kW hsz y0 yf0 y1 yf1 y2 yf2 y3 yf3 y4 yf4 y5 yf5 y6 yf6 y7 yf7 y8 yf8 y9 yf9 y10 yf10
 replace ku := ku.below_ hbUk114 ku.lt
 replace HSu := Lib.hid (HSu.out.ext hbUk114)
 replace kdn := kdn.below_ hbUk114 kdn.lt
 have Bk115 := zbt Bk110 hbUk114
 clear hbUk114 HWk112
 have HQ : Hid (∀ V, (Op.equalIn 9999 38 (.agg (zkk 1 2 3 4 5 6 7 9223372036854775808).toArray) (.agg (zkk 1 2 3 4 5 6 7 9223372036854775808).toArray)).run Tryz.prog V = .ok true V) := fun V => eqIn_ct V xC xC
 go_wp2_with fail
 refine wp_region_chain (.is ?fla0 :: .is ?fla1 :: .is ?fla2 :: .is ?fla3 :: .is ?fla4 :: .is ?fla5 :: .is ?fla6 :: .is ?fla7 :: .is ?fla8 :: .is ?fla9 :: .is ?fla10 :: .is ?fla11 :: .is ?fla12 :: .is ?fla13 :: .is ?fla14 :: .is ?fla15 :: .is ?fla16 :: .is ?fla17 :: .is ?fla18 :: .is ?fla19 :: .is ?fla20 :: .is ?fla21 :: .is ?fla22 :: .is (.agg (zkk 1 2 3 4 5 6 7 9223372036854775808).toArray) :: .is ?fla24 :: .is ?fla25 :: .is ?fla26 :: .is ?fla27 :: .is ?fla28 :: .is ?fla29 :: .is ?fla30 :: .is ?fla31 :: .is ?fla32 :: .is ?fla33 :: .is ?fla34 :: .is ?fla35 :: []) (by kernel_rfl) (by kernel_rfl) (by kernel_rfl) (lasts_is (lasts_is (lasts_is (lasts_is (lasts_is (lasts_is (lasts_is (lasts_is (lasts_is (lasts_is (lasts_is (lasts_is (lasts_is (lasts_is (lasts_is (lasts_is (lasts_is (lasts_is (lasts_is (lasts_is (lasts_is (lasts_is (lasts_is (lasts_is (lasts_is (lasts_is (lasts_is (lasts_is (lasts_is (lasts_is (lasts_is (lasts_is (lasts_is (lasts_is (lasts_is (lasts_is lasts_nil)))))))))))))))))))))))))))))))))))) (fun W0 hb0 hz0 => ?_)
 rotate_left 35
 have kN := kdn.below_ hb0 kdn.lt
 have zN := kN.lt
 obtain ⟨n0, n1, n2, n3, n4, n5, n6, n7, n8, n9, n10, n11⟩ := zc12 kN
 refine zot ?_
 refine zot ?_
 refine zot ?_
 refine zot ?_
 refine zot ?_
 refine zot ?_
 refine zot ?_
 refine zot ?_
 refine zot ?_
 refine zot ?_
 refine zot ?_
 refine zot ?_
 refine zot ?_
 refine zot ?_
 refine zot ?_
 refine zot ?_
 refine zot ?_
 refine zot ?_
 refine zot ?_
 refine zot ?_
 refine zot ?_
 refine zot ?_
 refine zoT (fun w hbw hd => ?_) ?_
 ·have r0 := cell_keep hbw n0 zN
  have r1 := cell_keep hbw n1 zN
  have r2 := cell_keep hbw n2 zN
  have r3 := cell_keep hbw n3 zN
  have r4 := cell_keep hbw n4 zN
  have r5 := cell_keep hbw n5 zN
  have r6 := cell_keep hbw n6 zN
  have r7 := cell_keep hbw n7 zN
  have r8 := cell_keep hbw n8 zN
  have r9 := cell_keep hbw n9 zN
  have r10 := cell_keep hbw n10 zN
  have r11 := cell_keep hbw n11 zN
  exact zgs
 refine chain_is ?sla23 ?rla23
 case sla23 =>
  intro w hbw hd K Q' hK
  clear hd
  go_simp
  refine (x_any _).mono ?_
  rintro e y ⟨rfl, hy⟩
  unfold ctV ctC xC
  dsimp only
  go_wp2_with fail
  refine hK.out (.agg (zkk 1 2 3 4 5 6 7 9223372036854775808).toArray) _ _ ?_ ?_ rfl
  ·(simp only [Act.put, zy0, zy1, zy2, List.nil_append, List.cons_append])
  ·exact zbm
 (try simp only [Act.put, zy0, zy1, zy2, List.nil_append, List.cons_append])
 refine zot ?_
 refine zoT (fun w hbw hd => ?_) ?_
 ·have hq := HQ.out w
  exact zgs
 refine zot ?_
 refine zot ?_
 refine zot ?_
 refine zot ?_
 refine zot ?_
 refine zot ?_
 refine zot ?_
 refine zot ?_
 refine zot ?_
 refine zot ?_
 refine chain_end (fun wz hbz hd => ?_)
 go_wp2_with fail
 go_ret
 exact ⟨rfl, Bk115.trans ((hb0.trans (hbz.mono hb0.size)).mono Bk115.size)⟩
end Go.Proofs.YthijbipidbjpfaaGreatDoor
