import Derived.Test.YthijbipidbjpfaaGreatDoorZB24
import Derived.Test.YthijbipidbjpfaaGreatDoorZB25
import Derived.Test.YthijbipidbjpfaaGreatDoorZB00
import Derived.Test.YthijbipidbjpfaaGreatDoorZB04
import Derived.Test.YthijbipidbjpfaaGreatDoorZB14
import Derived.Test.YthijbipidbjpfaaGreatDoorZB06
import Derived.Test.YthijbipidbjpfaaGreatDoorZB23
import Derived.Test.YthijbipidbjpfaaGreatDoorZB03
import Derived.ProofKit
import Derived.OpenShut
import Derived.Lib.SmallJoins
import Derived.Test.YthijbipidbjpfaaGreatDoorTie
import Derived.Test.YthijbipidbjpfaaGreatDoorCards
import Derived.Test.YthijbipidbjpfaaGreatDoorZB07
import Derived.LaidMore
import Derived.Stop.Joined
import Derived.ChangeSame
set_option linter.unusedSimpArgs false
set_option linter.unusedVariables false
set_option maxRecDepth 100000
set_option maxHeartbeats 8000000
namespace Go.Proofs.YthijbipidbjpfaaGreatDoor
open Go.RowKit Go.Maps
theorem swapBack_walk (A : Option Addr) (c : Nat) (nums : List Int) (n : Int) (A' : Option Addr) (c' : Nat) (more : List Int) (w : World) (hn : Sl w (.int .i64) A nums) (_hwf : ∀ n ∈ nums, (Lit.int .i64 n).wf = true) (hln : nums.length ≤ 9223372036854775807) (_hw1 : (Lit.int .i64 n).wf = true)
  (hn' : Sl w (.int .i64) A' more) (_hwf' : ∀ n ∈ more, (Lit.int .i64 n).wf = true) (hln' : more.length ≤ 9223372036854775807) (hz : TZ w) :
  Calls Tryz.prog 9 #[.slice A nums.length c, .int .i64 n, .slice A' more.length c'] w fun e w' => e = .returned (.bool true) ∧ Below w.heap.size w w' := by
 have HTZ := Lib.hid hz
 have HW0 : 0 < w.heap.size := hz.pos
 have HN := Lib.hid hn
 have HN' := Lib.hid hn'
 clear hn hz _hwf _hwf' hn' _hw1
 obtain ⟨M, hM⟩ : ∃ M, madeW nums = M := ⟨_, rfl⟩
 have HI : Hid (Inv6 M) := by rw [← hM]; exact made_inv nums
 have HU : Hid (usW M 60 = false) := by rw [← hM]; exact made_low nums
 have HM := fun V hb => made_any A c nums V (HN.out.ext hb) hln (HTZ.out.ext HW0 hb)
 rw [hM] at HM
 replace HM := Lib.hid HM
 clear hM
 obtain ⟨C, hC⟩ : ∃ C, cnW n = C := ⟨_, rfl⟩
 have HCC := fun V => content_any n V
 rw [hC] at HCC
 replace HCC := Lib.hid HCC
 have HQ : Hid (∀ V, (Op.equalIn 9999 38 (.agg (zkk C.c0 C.c1 C.c2 C.c3 C.c4 C.c5 C.c6 C.c7).toArray) (.agg (zkk C.c0 C.c1 C.c2 C.c3 C.c4 C.c5 C.c6 C.c7).toArray)).run Tryz.prog V = .ok true V) := fun V => (eqIn_ct V C C).trans (by rw [decide_eq_true rfl])
 clear hC
 obtain ⟨T0, z, x, hT⟩ : ∃ T z x, wrtW M 60 500 C = (T, z, x) := ⟨_, _, _, rfl⟩
 have HT : Hid ((x = 5) ∨ (x = 0 ∧ ∃ j : Nat, z = j ∧ Kept T0 j C 500)) := by
  by_cases hh : hinW M = []
  ·obtain ⟨h1, j, h2, h3⟩ := back_kept HI.out C HU.out hh
   rw [hT] at h1 h2 h3
   exact .inr ⟨h1, j, h2, h3⟩
  ·refine .inl ?_
   have : (wrtW M 60 500 C).2.2 = 5 := by
    unfold wrtW
    rw [if_neg (by rw [chkW_ok.2 HI.out.ok]; simp), if_neg (by decide), if_neg (by omega), if_neg (by rw [HU.out]; simp), if_pos hh]
   rw [hT] at this
   exact this
 go_enter Tryz.func9, Tryz.ntmps9
 go_wp2_with fail
 refine (known_any w HTZ.out).mono ?_
 rintro e1 w1 ⟨rfl, hb1⟩
 go_wp2_with fail
 refine (HM.out w1 hb1).mono ?_
 rintro e2 w2 ⟨⟨a0, c0, a1, c1, a2, c2, a3, c3, a4, c4, a5, c5, a6, c6, a7, c7⟩, rfl, ho, hb2⟩
 unfold swV swC
 dsimp only
 go_upto_region 3 with fail
 obtain ⟨V0, hV⟩ : ∃ V, w2.alloc (.cells (zkx M a0 c0 a1 c1 a2 c2 a3 c3 a4 c4 a5 c5 a6 c6 a7 c7).toArray 35) = V := ⟨_, rfl⟩
 obtain ⟨Bs, hBe⟩ : ∃ B, w2.heap.size = B := ⟨_, rfl⟩
 have ks : Blk V0 Bs 35 (zkx M a0 c0 a1 c1 a2 c2 a3 c3 a4 c4 a5 c5 a6 c6 a7 c7).toArray := by rw [← hV, ← hBe]; exact Blk.new_ rfl rfl
 have hbV := zab hV
 have HSs : Hid (SwR V0 ⟨a0, c0, a1, c1, a2, c2, a3, c3, a4, c4, a5, c5, a6, c6, a7, c7⟩ M) := ho.sw.ext hbV
 have BV0 : Below w.heap.size w V0 := hb1.trans ((hb2.trans (hbV.mono hb2.size)).mono hb1.size)
 rw [hV, hBe]
 clear hV ho hb2 hbV hBe hb1 HM
 go_upto_region 5 with fail
 have hHWk3 : ∀ V, Below V0.heap.size V0 V → _ := fun V hV => WriteOut_any ⟨a0, c0, a1, c1, a2, c2, a3, c3, a4, c4, a5, c5, a6, c6, a7, c7⟩ M 60 500 C V (SwA.of (HSs.out.ext hV) HI.out.ok (by rw [HI.out.len]; omega)) (HTZ.out.ext HW0 (BV0.trans (hV.mono BV0.size)))
 rw [hT] at hHWk3
 have HWk3 := Lib.hid hHWk3
 clear hHWk3
 go_wp2_with fail
 refine zrg [1, 0, 1, 2, 0, 0, 0, 0, 2, 3, 0, 0] [[], [], [], [], [3], [4], [4], [4], [], [], [6], [7]] [.kn ?_, .is ?_, .kn (.agg (zkk C.c0 C.c1 C.c2 C.c3 C.c4 C.c5 C.c6 C.c7).toArray), .has (SwF T0 [.int .i64 z, .int .i64 x]), .fn [3] fst_, .fn [4] (fun l => tupAt (fst_ l) 0), .fn [4] (fun l => tupAt (fst_ l) 1), .fn [4] (fun l => tupAt (fst_ l) 2), .has (VarN 35 zkz), .late, .fn [6] fst_, .fn [7] fst_] [9] (lts_kn (lts_is (lts_kn (lts_has (SwF.lasts T0 [.int .i64 z, .int .i64 x]) (lts_fn (lts_fn (lts_fn (lts_fn (lts_has (VarN.lasts 35 zkz) (lts_late (lts_fn (lts_fn lts_nil)))))))))))) (fun W0 hb0 hz0 => ?_)
 rotate_left 2
 have kW := ks.below_ hb0 ks.lt
 have zW := kW.lt
 obtain ⟨p0, p1, p2, p3, p4, p5, p6, p7, p8, p9, p10⟩ := zc11 kW
 refine zqT (fun w hbw hd => ?_) ?_
 ·have r0 := cell_keep hbw p0 zW
  have r1 := cell_keep hbw p1 zW
  have r2 := cell_keep hbw p2 zW
  have r3 := cell_keep hbw p3 zW
  have r4 := cell_keep hbw p4 zW
  have r5 := cell_keep hbw p5 zW
  have r6 := cell_keep hbw p6 zW
  have r7 := cell_keep hbw p7 zW
  have r8 := cell_keep hbw p8 zW
  have r9 := cell_keep hbw p9 zW
  have r10 := cell_keep hbw p10 zW
  exact zgs
 refine zqp ?_
 refine zqc (fun w hbw hd K Q' hK => ?_) ?_
 ·clear hd
  go_simp
  refine (HCC.out _).mono ?_
  rintro e y ⟨rfl, hy⟩
  unfold ctV ctC
  go_wp2_with fail
  exact hK.out _ _ _ zpt zbm rfl
 refine zqh (fun w hbw hd K Q' hK => ?_) (fun vwb3 => ?_)
 ·clear hd
  go_simp
  refine (HWk3.out _ (hb0.trans (hbw.mono hb0.size))).mono ?_
  rintro e y ⟨⟨ak2_0, ck2_0, ak2_1, ck2_1, ak2_2, ck2_2, ak2_3, ck2_3, ak2_4, ck2_4, ak2_5, ck2_5, ak2_6, ck2_6, ak2_7, ck2_7⟩, rfl, ho, hy⟩
  unfold swV swC
  go_wp2_with fail
  exact hK.out (.tuple #[.agg (zkx T0 ak2_0 ck2_0 ak2_1 ck2_1 ak2_2 ck2_2 ak2_3 ck2_3 ak2_4 ck2_4 ak2_5 ck2_5 ak2_6 ck2_6 ak2_7 ck2_7).toArray, .int .i64 z, .int .i64 x]) _ _ zpt zbm ⟨⟨ak2_0, ck2_0, ak2_1, ck2_1, ak2_2, ck2_2, ak2_3, ck2_3, ak2_4, ck2_4, ak2_5, ck2_5, ak2_6, ck2_6, ak2_7, ck2_7⟩, rfl, ho⟩
 refine zqf (vwb3) ?_
 refine zqF (tupAt (vwb3) 0) (fun w0 hd w => ?_) ?_
 ·obtain ⟨_, _, ⟨ak2_0, ck2_0, ak2_1, ck2_1, ak2_2, ck2_2, ak2_3, ck2_3, ak2_4, ck2_4, ak2_5, ck2_5, ak2_6, ck2_6, ak2_7, ck2_7⟩, rfl, _⟩ : ∃ lo hi, SwF T0 [.int .i64 z, .int .i64 x] vwb3 lo hi w0 := hd 3 _ _ (by kernel_rfl) rfl rfl
  unfold swV swC
  exact zsr
 refine zqF (tupAt (vwb3) 1) (fun w0 hd w => ?_) ?_
 ·obtain ⟨_, _, ⟨ak2_0, ck2_0, ak2_1, ck2_1, ak2_2, ck2_2, ak2_3, ck2_3, ak2_4, ck2_4, ak2_5, ck2_5, ak2_6, ck2_6, ak2_7, ck2_7⟩, rfl, _⟩ : ∃ lo hi, SwF T0 [.int .i64 z, .int .i64 x] vwb3 lo hi w0 := hd 3 _ _ (by kernel_rfl) rfl rfl
  unfold swV swC
  exact zsr
 refine zqF (tupAt (vwb3) 2) (fun w0 hd w => ?_) ?_
 ·obtain ⟨_, _, ⟨ak2_0, ck2_0, ak2_1, ck2_1, ak2_2, ck2_2, ak2_3, ck2_3, ak2_4, ck2_4, ak2_5, ck2_5, ak2_6, ck2_6, ak2_7, ck2_7⟩, rfl, _⟩ : ∃ lo hi, SwF T0 [.int .i64 z, .int .i64 x] vwb3 lo hi w0 := hd 3 _ _ (by kernel_rfl) rfl rfl
  unfold swV swC
  exact zsr
 refine zqh (fun w hbw hd K Q' hK => ?_) (fun vwb8 => ?_)
 ·clear hd
  go_simp
  exact hK.out (.pointer (some ⟨w.heap.size, 0, none⟩)) _ _ zpt zbm ⟨_, rfl, Blk.new_ rfl rfl, Nat.le_refl _, by simp⟩
 refine zql ?_
 refine zqf (tupAt (vwb3) 1) ?_
 refine zqf (tupAt (vwb3) 2) ?_
 refine chn_end (fun wz lo hi hbz hd hR => ?_)
 obtain ⟨⟨ak2_0, ck2_0, ak2_1, ck2_1, ak2_2, ck2_2, ak2_3, ck2_3, ak2_4, ck2_4, ak2_5, ck2_5, ak2_6, ck2_6, ak2_7, ck2_7⟩, rfl, ho⟩ : SwF T0 [.int .i64 z, .int .i64 x] vwb3 (lo 3) (hi 3) wz := hd 3 _ _ rfl rfl
 obtain ⟨btk4, rfl, kb, hlo, hhi⟩ : VarN 35 zkz vwb8 (lo 8) (hi 8) wz := hd 8 _ _ rfl rfl
 have hWlo := (hR.2 8 _ rfl).1
 have hWo : w.heap.size ≤ lo 3 := Nat.le_trans (Nat.le_trans BV0.size hb0.size) (hR.2 3 _ rfl).1
 have hBl : w.heap.size ≤ btk4 := Nat.le_trans (Nat.le_trans BV0.size hb0.size) (Nat.le_trans hWlo hlo)
 have hsz := hb0.size
 have BZ : Below V0.heap.size V0 wz := hb0.trans (hbz.mono hsz)
 clear hd hR p0 p1 p2 p3 p4 p5 p6 p7 p8 p9 p10
 unfold swV swC
 simp only [tupAt, List.getD_cons_succ, List.getD_cons_zero, Array.getD_eq_getD_getElem?, zy5, zy6, zy7, Option.getD_some]
 have zb := kb.lt
 obtain ⟨y0, y1, y2, y3, y4, y5, y6, y7, y8, y9, y10⟩ := zc11 kb
 obtain ⟨yf0, yf1, yf2, yf3, yf4, yf5, yf6, yf7, yf8, yf9, yf10, -⟩ := zf kb
 refine late_one (by simp only [zy5, zy6, zy7]; rfl) (fun K Q' hK => ?_)
 go_simp
 refine hK.out _ ?_
 clear hK K Q'
 obtain ⟨Uk5, hUk5⟩ : ∃ U, setN wz btk4 0 (zkx T0 ak2_0 ck2_0 ak2_1 ck2_1 ak2_2 ck2_2 ak2_3 ck2_3 ak2_4 ck2_4 ak2_5 ck2_5 ak2_6 ck2_6 ak2_7 ck2_7) = U := ⟨_, rfl⟩
 have hUk5n := zs11 hUk5
 have ka := zsw hUk5 kb
 have HSa := Lib.hid (ho.farT kb (zkx T0 ak2_0 ck2_0 ak2_1 ck2_1 ak2_2 ck2_2 ak2_3 ck2_3 ak2_4 ck2_4 ak2_5 ck2_5 ak2_6 ck2_6 ak2_7 ck2_7)).sw
 rw [hUk5] at HSa
 have HOa : Hid (SwO Uk5 w.heap.size ⟨ak2_0, ck2_0, ak2_1, ck2_1, ak2_2, ck2_2, ak2_3, ck2_3, ak2_4, ck2_4, ak2_5, ck2_5, ak2_6, ck2_6, ak2_7, ck2_7⟩ T0) := by rw [← hUk5]; exact (ho.farT kb _).base_ hWo
 clear hWo
 have hbUk5 := zbw hUk5 BZ (by omega)
 rw [hUk5n]
 clear hUk5n hUk5 ho kb zb hlo hhi hWlo hb0 hz0 hbz BZ zW kW hsz y0 yf0 y1 yf1 y2 yf2 y3 yf3 y4 yf4 y5 yf5 y6 yf6 y7 yf7 y8 yf8 y9 yf9 y10 yf10
 replace ks := ks.below_ hbUk5 ks.lt
 replace HSs := Lib.hid (HSs.out.ext hbUk5)
 have Bk6 := zbt BV0 hbUk5
 clear hbUk5 HWk3
 obtain ⟨B, hBe⟩ : ∃ B, B = btk4 := ⟨_, rfl⟩
 subst hBe
 obtain ⟨wa, hwa⟩ : ∃ V, V = Uk5 := ⟨_, rfl⟩
 subst hwa
 have hbw0 := Bk6
 rcases HT.out with rfl | ⟨rfl, j, rfl, hK⟩
 ·go_wp2_with fail
  go_ret
  exact ⟨rfl, hbw0⟩
 have HK := Lib.hid hK
 have hj6 := hK.ilt
 have i0 : ¬ ((j : Int) < 0) := by omega
 have i5 : ¬ ((j : Int) > 5) := by omega
 clear hK HT ks HSs BV0 HI HU HSa
 go_upto_block 0 with fail
 clear i0 i5
 go_cut [13] (fun v wx => ∃ (S : Swp) (L : Lay), Blk wx B 35 (swC L S).toArray ∧ Hid (SwO wx w.heap.size L S) ∧ Hid (Kept S j C 480) ∧ Below w.heap.size w wx)
 case first =>
  go_wp2_with fail
  go_loopw [13] (fun i wr => ∃ (k : Nat) (S : Swp) (L : Lay), k ≤ 20 ∧ k ≤ more.length ∧ i = .int .i64 k ∧ Blk wr B 35 (swC L S).toArray ∧ Hid (SwO wr w.heap.size L S) ∧ Hid (Kept S j C (500 - (k : Int))) ∧ Below w.heap.size w wr) (fun i _ => 20 - (intOf i).toNat)
  case atStart => exact ⟨0, T0, ⟨ak2_0, ck2_0, ak2_1, ck2_1, ak2_2, ck2_2, ak2_3, ck2_3, ak2_4, ck2_4, ak2_5, ck2_5, ak2_6, ck2_6, ak2_7, ck2_7⟩, by omega, by omega, rfl, ka, HOa, HK.out, hbw0⟩
  case round =>
   obtain ⟨k, S, ⟨a0, c0, a1, c1, a2, c2, a3, c3, a4, c4, a5, c5, a6, c6, a7, c7⟩, hk, hkn, rfl, kB, HO, HKS, hbw⟩ := hrel
   unfold swC at kB
   dsimp only at kB
   clear ka HOa hbw0
   by_cases hlt : k < more.length
   ·have i1 : (k : Int) < more.length := by omega
    by_cases hk' : k < 20
    ·have i2 : (k : Int) < 20 := by omega
     obtain ⟨b, off, x, rfl, hbl, hx', hx⟩ := (HN'.out.ext hbw).at_ hlt
     obtain ⟨T, hT⟩ : ∃ T, stepW S x = T := ⟨_, rfl⟩
     have HKT : Hid (Kept T j C (500 - ((k + 1 : Nat) : Int))) := by rw [← hT]; exact (step_kept HKS.out (by omega) x).mono (by omega)
     have hC : ∀ V, Below wr.heap.size wr V → _ := fun V hV => step_own ⟨a0, c0, a1, c1, a2, c2, a3, c3, a4, c4, a5, c5, a6, c6, a7, c7⟩ S x w.heap.size V (HO.out.ext hV) (Nat.le_trans hbw.size hV.size) HKS.out.inv (HTZ.out.ext HW0 (hbw.trans (hV.mono hbw.size)))
     rw [hT] at hC
     have HC := Lib.hid hC
     clear hC hT hx'
     go_wp2_with fail
     refine zrg [1, 0, 0, 0, 1, 2, 3] [[], [], [], [], [], [], []] [.kn ?_, .is ?_, .is ?_, .is ?_, .kn ?_, .has (SwG T w.heap.size), .late] [6] (lts_kn (lts_is (lts_is (lts_is (lts_kn (lts_has (SwG.lasts T w.heap.size) (lts_late lts_nil))))))) (fun W0 hb0 hz0 => ?_)
     rotate_left 5
     have kW := kB.below_ hb0 kB.lt
     have zW := kW.lt
     have px := cell_keep hb0 hx hbl
     have zx := Nat.lt_of_lt_of_le hbl hb0.size
     obtain ⟨p0, p1, p2, p3, p4, p5, p6, p7, p8, p9, p10⟩ := zc11 kW
     refine zqT (fun w hbw hd => ?_) ?_
     ·have r0 := cell_keep hbw p0 zW
      have r1 := cell_keep hbw p1 zW
      have r2 := cell_keep hbw p2 zW
      have r3 := cell_keep hbw p3 zW
      have r4 := cell_keep hbw p4 zW
      have r5 := cell_keep hbw p5 zW
      have r6 := cell_keep hbw p6 zW
      have r7 := cell_keep hbw p7 zW
      have r8 := cell_keep hbw p8 zW
      have r9 := cell_keep hbw p9 zW
      have r10 := cell_keep hbw p10 zW
      exact zgs
     refine zqp ?_
     refine zqp ?_
     refine zqp ?_
     refine zqT (fun w hbw hd => ?_) ?_
     ·have rx := cell_keep hbw px zx
      exact zgs
     refine zqh (fun w hbw hd K Q' hK => ?_) (fun vsaa5 => ?_)
     ·clear hd
      go_simp
      refine (HC.out _ (hb0.trans (hbw.mono hb0.size))).mono ?_
      rintro e y ⟨⟨b0, k0, b1, k1, b2, k2, b3, k3, b4, k4, b5, k5, b6, k6, b7, k7⟩, rfl, ho, hy⟩
      unfold swV swC
      go_wp2_with fail
      exact hK.out (.agg (zkx T b0 k0 b1 k1 b2 k2 b3 k3 b4 k4 b5 k5 b6 k6 b7 k7).toArray) _ _ zpt zbm ⟨⟨b0, k0, b1, k1, b2, k2, b3, k3, b4, k4, b5, k5, b6, k6, b7, k7⟩, rfl, ho⟩
     refine zql ?_
     refine chn_end (fun wz lo hi hbz hd hR => ?_)
     obtain ⟨⟨b0, k0, b1, k1, b2, k2, b3, k3, b4, k4, b5, k5, b6, k6, b7, k7⟩, rfl, ho⟩ : SwG T w.heap.size vsaa5 (lo 5) (hi 5) wz := hd 5 _ _ rfl rfl
     have hbz0 := hb0.trans (hbz.mono hb0.size)
     have B4 := zbt hbw hbz0
     have kZ := kB.below_ hbz0 kB.lt
     clear hd hR hbz hb0 hbz0 p0 p1 p2 p3 p4 p5 p6 p7 p8 p9 p10 px
     unfold swV swC
     have zN := kZ.lt
     obtain ⟨t0, t1, t2, t3, t4, t5, t6, t7, t8, t9, t10⟩ := zc11 kZ
     obtain ⟨tf0, tf1, tf2, tf3, tf4, tf5, tf6, tf7, tf8, tf9, tf10, -⟩ := zf kZ
     refine late_one (by simp only [zy5, zy6, zy7]; rfl) (fun K Q' hK => ?_)
     go_simp
     refine hK.out _ ?_
     clear hK K Q'
     obtain ⟨U, hU⟩ : ∃ U, setN wz B 0 (zkx T b0 k0 b1 k1 b2 k2 b3 k3 b4 k4 b5 k5 b6 k6 b7 k7) = U := ⟨_, rfl⟩
     have hUn := zs11 hU
     have bU := zbw hU B4 hBl
     have kU := zsw hU kZ
     have HOU : Hid (SwO U w.heap.size ⟨b0, k0, b1, k1, b2, k2, b3, k3, b4, k4, b5, k5, b6, k6, b7, k7⟩ T) := by subst hU; exact ho.farT kZ _
     rw [hUn]
     clear hUn hU ho kZ kW zW zN t0 tf0 t1 tf1 t2 tf2 t3 tf3 t4 tf4 t5 tf5 t6 tf6 t7 tf7 t8 tf8 t9 tf9 t10 tf10
     go_wp2_with fail
     go_roundw
     case rel => exact ⟨k + 1, T, ⟨b0, k0, b1, k1, b2, k2, b3, k3, b4, k4, b5, k5, b6, k6, b7, k7⟩, by omega, by omega, by go_num, kU, HOU.out, HKT.out, bU⟩
     case measure => simp [intOf]; omega
    ·have i2 : ¬ ((k : Int) < 20) := by omega
     have HKE : Hid (Kept S j C 480) := HKS.out.mono (by omega)
     go_wp2_with fail
     go_meet
     exact ⟨S, ⟨a0, c0, a1, c1, a2, c2, a3, c3, a4, c4, a5, c5, a6, c6, a7, c7⟩, kB, HO, HKE, hbw⟩
   ·have i1 : ¬ ((k : Int) < more.length) := by omega
    have HKE : Hid (Kept S j C 480) := HKS.out.mono (by omega)
    go_wp2_with fail
    go_meet
    exact ⟨S, ⟨a0, c0, a1, c1, a2, c2, a3, c3, a4, c4, a5, c5, a6, c6, a7, c7⟩, kB, HO, HKE, hbw⟩
 case rest =>
  obtain ⟨S1, L1, kB1, HO1, HK1, bc1⟩ := hcut
  clear ka HOa hbw0 HK
  have HJ1 : Hid (S1.dk.jobs.length ≤ 4) := by
   have h1 := HK1.out.inv.ok.dk.few
   have h2 := HK1.out.inv.ok.room
   have h3 := HK1.out.inv.size
   show _ ≤ _
   omega
  go_wp2_with fail
  go_loopw [14] (fun i wr => ∃ (k : Nat) (S : Swp) (L : Lay), i = .int .i64 k ∧ Blk wr B 35 (swC L S).toArray ∧ Hid (SwO wr w.heap.size L S) ∧ Hid (Kept S j C (480 - (k : Int))) ∧ Hid (S.dk.jobs.length + k ≤ 4) ∧ Below w.heap.size w wr) (fun i _ => 20 - (intOf i).toNat)
  case atStart => exact ⟨0, S1, L1, rfl, kB1, HO1, HK1.out.mono (by omega), HJ1, bc1⟩
  case round =>
   obtain ⟨k, S, ⟨a0, c0, a1, c1, a2, c2, a3, c3, a4, c4, a5, c5, a6, c6, a7, c7⟩, rfl, kB, HO, HKS, HJ, hbw⟩ := hrel
   unfold swC at kB
   dsimp only at kB
   clear kB1 HO1 HK1 bc1 HJ1
   have i2 : (k : Int) < 20 := by have := HJ.out; omega
   have zB := kB.lt
   have q7 := zc kB 7
   by_cases hj : 0 < S.dk.jobs.length
   ·have j1 : (S.dk.jobs.length : Int) > 0 := by omega
    obtain ⟨T, D, hT, hKT, hJT⟩ : ∃ T D, cmpW S 0 = (T, D, 0) ∧ Hid (Kept T j C (480 - ((k + 1 : Nat) : Int))) ∧ Hid (T.dk.jobs.length + (k + 1) ≤ 4) := by
     obtain ⟨h1, h2⟩ := cmp0 HKS.out.inv.ok hj
     have h3 : S.dk.jobs[(0 : Int).toNat]? = some S.dk.jobs[0] := List.getElem?_eq_getElem hj
     refine ⟨_, _, h1, ?_, ?_⟩
     ·exact (dn_kept HKS.out (by have := HJ.out; omega) (by omega) h3 h2).mono (by omega)
     ·have h4 := dn_len HKS.out.inv.ok h3
      have := HJ.out
      show _ ≤ _
      omega
    have HC := Complete_any ⟨a0, c0, a1, c1, a2, c2, a3, c3, a4, c4, a5, c5, a6, c6, a7, c7⟩ S 0 wr (SwA.of HO.out.sw HKS.out.inv.ok (by rw [HKS.out.inv.len]; omega)) (HTZ.out.ext HW0 hbw)
    rw [hT] at HC
    replace HC := Lib.hid HC
    clear hT hj
    obtain ⟨q0, q1, q2, q3, q4, q5, q6, q7, q8, q9, q10⟩ := zc11 kB
    go_wp2_with fail
    refine HC.out.mono ?_
    rintro e4 w4 ⟨⟨b0, k0, b1, k1, b2, k2, b3, k3, b4, k4, b5, k5, b6, k6, b7, k7⟩, rfl, ho, hb4⟩
    unfold swV swC dnV dnC ctC
    dsimp only
    go_upto_region 18 with fail
    obtain ⟨V, hV⟩ : ∃ V, (w4.alloc (.cells (zkx T b0 k0 b1 k1 b2 k2 b3 k3 b4 k4 b5 k5 b6 k6 b7 k7).toArray 35)).alloc (.cells (zkn D.job.wr D.job.slot D.job.frame D.proc D.job.data.c0 D.job.data.c1 D.job.data.c2 D.job.data.c3 D.job.data.c4 D.job.data.c5 D.job.data.c6 D.job.data.c7).toArray 55) = V := ⟨_, rfl⟩
    have kv := za1 hV
    have hbV := zabb hV
    rw [hV]
    have hBV := hb4.trans (hbV.mono hb4.size)
    have B4 := zbt hbw hBV
    have kZ := kB.below_ hBV kB.lt
    have hoV := (ho.base_ hbw.size).ext hbV
    have zv := kv.lt
    have zZ := kZ.lt
    have hne : w4.heap.size ≠ B := by have := kB.lt; have := hb4.size; omega
    clear hV hbV hb4 ho hBV zB HC q0 q1 q2 q3 q4 q5 q6 q7 q8 q9 q10
    obtain ⟨m0, m1, m2, m3, m4, m5, m6, m7, m8, m9, m10⟩ := zc11 kv
    obtain ⟨t0, t1, t2, t3, t4, t5, t6, t7, t8, t9, t10⟩ := zc11 kZ
    obtain ⟨tf0, tf1, tf2, tf3, tf4, tf5, tf6, tf7, tf8, tf9, tf10, -⟩ := zf kZ
    go_wp2_with fail
    obtain ⟨U, hU⟩ : ∃ U, setN V B 0 (zkx T b0 k0 b1 k1 b2 k2 b3 k3 b4 k4 b5 k5 b6 k6 b7 k7) = U := ⟨_, rfl⟩
    have hUn := zs11 hU
    have bU := zbw hU B4 hBl
    have kU := zsw hU kZ
    have HOU : Hid (SwO U w.heap.size ⟨b0, k0, b1, k1, b2, k2, b3, k3, b4, k4, b5, k5, b6, k6, b7, k7⟩ T) := by subst hU; exact hoV.farT kZ _
    rw [hUn]
    clear hUn hU hoV kZ zZ zv kv t0 tf0 m0 t1 tf1 m1 t2 tf2 m2 t3 tf3 m3 t4 tf4 m4 t5 tf5 m5 t6 tf6 m6 t7 tf7 m7 t8 tf8 m8 t9 tf9 m9 t10 tf10 m10
    go_wp2_with fail
    go_roundw
    case rel => exact ⟨k + 1, T, ⟨b0, k0, b1, k1, b2, k2, b3, k3, b4, k4, b5, k5, b6, k6, b7, k7⟩, by go_num, kU, HOU.out, hKT.out, hJT.out, bU⟩
    case measure => simp [intOf]; omega
   ·have j1 : ¬ ((S.dk.jobs.length : Int) > 0) := by omega
    obtain ⟨R, X3, hR, hIR, hX⟩ : ∃ R X3, redW S j 61 7 = (R, 0) ∧ Hid (Inv6 R) ∧ cmpW R 0 = (X3, ⟨⟨false, j, 61, C⟩, 7⟩, 0) := by
     obtain ⟨h1, h2, x, _, h3, h4⟩ := back_read HKS.out (by have := HJ.out; omega) (List.length_eq_zero_iff.1 (by omega))
     exact ⟨_, _, Prod.ext rfl h1, h2, Prod.ext rfl (Prod.ext h4 h3)⟩
    have HC := ReadIn_any ⟨a0, c0, a1, c1, a2, c2, a3, c3, a4, c4, a5, c5, a6, c6, a7, c7⟩ S j 61 7 wr (SwA.of HO.out.sw HKS.out.inv.ok (by rw [HKS.out.inv.len]; omega)) (HTZ.out.ext HW0 hbw)
    rw [hR] at HC
    replace HC := Lib.hid HC
    clear hR hj
    go_upto_region 21 with fail
    obtain ⟨q0, q1, q2, q3, q4, q5, q6, q7, q8, q9, q10⟩ := zc11 kB
    go_wp2_with fail
    refine HC.out.mono ?_
    rintro e4 w4 ⟨⟨d0, e0, d1, e1, d2, e2, d3, e3, d4, e4, d5, e5, d6, e6, d7, e7⟩, rfl, ho, hb4⟩
    unfold swV swC
    dsimp only
    go_upto_region 22 with fail
    obtain ⟨V, hV⟩ : ∃ V, w4.alloc (.cells (zkx R d0 e0 d1 e1 d2 e2 d3 e3 d4 e4 d5 e5 d6 e6 d7 e7).toArray 35) = V := ⟨_, rfl⟩
    have kv := za hV
    have hbV := zab hV
    rw [hV]
    have B4 : Below w.heap.size w V := hbw.trans ((hb4.trans (hbV.mono hb4.size)).mono hbw.size)
    have HC2 := Complete_any ⟨d0, e0, d1, e1, d2, e2, d3, e3, d4, e4, d5, e5, d6, e6, d7, e7⟩ R 0 V (SwA.of (ho.sw.ext hbV) hIR.out.ok (by rw [hIR.out.len]; omega)) (HTZ.out.ext HW0 B4)
    rw [hX] at HC2
    replace HC2 := Lib.hid HC2
    clear hX hV hbV hb4 ho HC zB q0 q1 q2 q3 q4 q5 q6 q7 q8 q9 q10
    have zv := kv.lt
    obtain ⟨m0, m1, m2, m3, m4, m5, m6, m7, m8, m9, m10⟩ := zc11 kv
    go_wp2_with fail
    refine HC2.out.mono ?_
    rintro e5 Wc ⟨⟨f0, g0, f1, g1, f2, g2, f3, g3, f4, g4, f5, g5, f6, g6, f7, g7⟩, rfl, ho, hb5⟩
    unfold swV swC dnV dnC ctC
    dsimp only
    go_upto_region 23 with fail
    obtain ⟨Y, hY⟩ : ∃ V, (Wc.alloc (.cells (zkx X3 f0 g0 f1 g1 f2 g2 f3 g3 f4 g4 f5 g5 f6 g6 f7 g7).toArray 35)).alloc (.cells (zkn false (j : Nat) 61 7 C.c0 C.c1 C.c2 C.c3 C.c4 C.c5 C.c6 C.c7).toArray 55) = V := ⟨_, rfl⟩
    have kd := za2 hY
    have hbV := zabb hY
    rw [hY]
    have BZ : Below w.heap.size w Y := B4.trans ((hb5.trans (hbV.mono hb5.size)).mono B4.size)
    clear hY hbV hb5 ho HC2 zv m0 m1 m2 m3 m4 m5 m6 m7 m8 m9 m10
    go_wp2_with fail
    refine wp_region_chain [.is ?fla0, .is ?fla1, .is ?fla2, .is ?fla3, .is ?fla4, .is ?fla5, .is ?fla6, .is ?fla7, .is ?fla8, .is ?fla9, .is ?fla10, .is ?fla11, .is ?fla12, .is (.agg (zkk C.c0 C.c1 C.c2 C.c3 C.c4 C.c5 C.c6 C.c7).toArray), .is ?fla14, .is ?fla15, .is ?fla16, .is ?fla17] (by kernel_rfl) (by kernel_rfl) (by kernel_rfl) (lasts_is (lasts_is (lasts_is (lasts_is (lasts_is (lasts_is (lasts_is (lasts_is (lasts_is (lasts_is (lasts_is (lasts_is (lasts_is (lasts_is (lasts_is (lasts_is (lasts_is (lasts_is lasts_nil)))))))))))))))))) (fun W0 hb0 hz0 => ?_)
    rotate_left 17
    have kN := kd.below_ hb0 kd.lt
    have zN := kN.lt
    obtain ⟨n0, n1, n2, n3, n4, n5, n6, n7, n8, n9, n10, n11⟩ := zc12 kN
    refine zot ?_
    refine zot ?_
    refine zot ?_
    refine zot ?_
    refine zot ?_
    refine zot ?_
    refine zot ?_
    refine zot ?_
    refine zot ?_
    refine zot ?_
    refine zoT (fun w hbw hd => ?_) ?_
    ·have r0 := cell_keep hbw n0 zN
     have r1 := cell_keep hbw n1 zN
     have r2 := cell_keep hbw n2 zN
     have r3 := cell_keep hbw n3 zN
     have r4 := cell_keep hbw n4 zN
     have r5 := cell_keep hbw n5 zN
     have r6 := cell_keep hbw n6 zN
     have r7 := cell_keep hbw n7 zN
     have r8 := cell_keep hbw n8 zN
     have r9 := cell_keep hbw n9 zN
     have r10 := cell_keep hbw n10 zN
     have r11 := cell_keep hbw n11 zN
     exact zgs
    refine zot ?_
    refine zot ?_
    refine chain_is ?sla13 ?rla13
    case sla13 =>
     intro w hbw hd K Q' hK
     clear hd
     go_simp
     refine (HCC.out _).mono ?_
     rintro e y ⟨rfl, hy⟩
     unfold ctV ctC
     go_wp2_with fail
     refine hK.out (.agg (zkk C.c0 C.c1 C.c2 C.c3 C.c4 C.c5 C.c6 C.c7).toArray) _ _ ?_ ?_ rfl
     ·(simp only [Act.put, zy0, zy1, zy2, List.nil_append, List.cons_append])
     ·exact zbm
    (try simp only [Act.put, zy0, zy1, zy2, List.nil_append, List.cons_append])
    refine zot ?_
    refine zoT (fun w hbw hd => ?_) ?_
    ·have hq := HQ.out w
     exact zgs
    refine zot ?_
    refine zot ?_
    refine chain_end (fun wz hbz hd => ?_)
    go_wp2_with fail
    go_ret
    exact ⟨rfl, BZ.trans ((hb0.trans (hbz.mono hb0.size)).mono BZ.size)⟩
end Go.Proofs.YthijbipidbjpfaaGreatDoor
namespace Go.Proofs.YthijbipidbjpfaaGreatDoor
open Go.RowKit Go.Maps
open Go.ChangeShapes Go.WideShapes Go.ChangeAt
theorem own : ownKnob Tryz.prog.godebug = none := by kernel_rfl
theorem laidOut : laidOutB Tryz.prog = true := by kernel_rfl
section
variable {H : Type} {enc : TypeId × Value → H} {P : Program}
theorem trodAll_below (hl : laidOutB P = true) {W W' : World} (hb : Below W.heap.size W W') : ∀ (ts : List TypeId) (vs : List Value) (ds : List (DataW H)) (ps : List MemPlace),
  (∀ t ∈ ts, P.readableRec t = true ∧ t < P.types.size) → (∀ x ∈ ps, x.block < W.heap.size) → DataW.TrodAll enc P W 0 (fun _ => true) true ts vs ds ps →
  DataW.TrodAll enc P W' 0 (fun b => decide (b < W.heap.size)) true ts vs ds ps
 | [], [], [], ps, _, _, h => h
 | [], _ :: _, _, _, _, _, h => by simp [DataW.TrodAll] at h
 | [], [], _ :: _, _, _, _, h => by simp [DataW.TrodAll] at h
 | _ :: _, [], _, _, _, _, h => by simp [DataW.TrodAll] at h
 | _ :: _, _ :: _, [], _, _, _, h => by simp [DataW.TrodAll] at h
 | t :: ts, v :: vs, d :: ds, ps, hr, hlt, h => by
  obtain ⟨p, q, h1, h2, rfl⟩ := h
  exact ⟨p, q, Below.trod hl (hr t (by simp)).1 (hr t (by simp)).2 h1 hb (fun x hx => hlt x (by simp [hx])), trodAll_below hl hb ts vs ds q (fun t ht => hr t (by simp [ht])) (fun x hx => hlt x (by simp [hx])) h2, rfl⟩
theorem law_post (hl : laidOutB P = true) {f : Func} {s : ChangeSpec} {B : TypeId} (hvars : s.vars = []) (hrt : f.resultTypes = #[B]) (hB : P.underlying B = some .bool) {W W' : World} {args : Array Value} {ds gs : List (DataW H)} {before : List MemPlace}
  (hr : ∀ t ∈ f.params.toList, P.readableRec t = true ∧ t < P.types.size)
  (hW : DataW.Whole enc P f.params.toList s.vars false W args.toList ds gs before) (hs : s.fn H (ds ++ gs) = { results := [.lit (.bool true)], args := ds }) (hb : Below W.heap.size W W') :
  s.post enc P f false true false false W args (.bool true) W' := by
 have hlt : ∀ p ∈ before, p.block < W.heap.size := fun p hp => hW.lt p hp
 have hW0 := hW
 obtain ⟨p, q, hA, hV, rfl, _, _⟩ := hW0
 rw [hvars] at hV
 obtain ⟨rfl, rfl⟩ := trodVars_none hV
 refine ⟨ds, [], p ++ [], [], p, [], hW, ?_, ?_, ?_, World.keptBut_mono (fun x hx => ⟨hx, .inr (.inl (by simpa using hx))⟩) (hb.frame (· ∈ p ++ [])), fun h => by cases h⟩
 ·rw [hs, hrt]
  exact trodAll_cons_mk (shut_bool hB _) trodAll_mk0
 ·rw [hs]
  exact trodAll_below hl hb _ _ _ _ hr (fun x hx => hlt x (by simpa using hx)) hA
 ·rw [hvars, hs]
  rfl
end
section
variable {H : Type} {enc : TypeId × Value → H} {P : Program} {W : World}
theorem open_cellsI {t e : TypeId} {fuel : Nat} {v : Value} {x : DataW H × List MemPlace} (ht : P.underlying t = some (.slice e)) (he : P.underlying e = some (.int .i64)) (hc : P.cellsOf e = 1)
  (h : DataW.trod enc P W 0 (fun _ => true) true fuel t [v] = some x) :
  ∃ A c xs, v = .slice A xs.length c ∧ Sl W (.int .i64) A xs ∧ (∀ n ∈ xs, (Lit.int .i64 n).wf = true) ∧ xs.length ≤ maxLen := by
 rcases open_ints ht he hc h with ⟨hcs, _⟩ | ⟨a, len, cap, zs, hcs, _, hl, hm, hz, _, hcell, hw⟩
 ·injection hcs with e1
  exact ⟨none, 0, [], e1, Sl.nil, by simp, by simp⟩
 ·injection hcs with e1
  simp only [if_true] at hz
  have hlen : (zs.take len).length = len := by simp; omega
  refine ⟨some a, cap, zs.take len, by rw [hlen]; exact e1, fun hp => ?_, fun n hn => hw n (List.mem_of_mem_take hn), by omega⟩
  obtain ⟨b, off, rfl, hc'⟩ := ints_at hcell (by omega)
  refine ⟨b, off, rfl, ?_, fun j x hx => ?_⟩
  ·exact World.block_lt_of_cell? W ⟨b, off + 0, none⟩ (hc' 0 (by omega))
  ·rw [List.getElem?_take] at hx
   split at hx
   ·obtain ⟨hj, rfl⟩ := List.getElem?_eq_some_iff.1 hx
    rw [hc' j (by omega), List.getD_eq_getElem?_getD, List.getElem?_eq_getElem hj]
    rfl
   ·cases hx
theorem open_slI {t e : TypeId} {base : Nat} {v : Value} {d : DataW H} {p : List MemPlace} (ht : P.underlying t = some (.slice e)) (he : P.underlying e = some (.int .i64)) (hc : P.cellsOf e = 1)
  (hv : Value.okWide P W .any base t v) (h : DataW.Trod enc P W 0 (fun _ => true) true t v d p) :
  ∃ A c xs, v = .slice A xs.length c ∧ Sl W (.int .i64) A xs ∧ (∀ n ∈ xs, (Lit.int .i64 n).wf = true) ∧ xs.length ≤ maxLen := by
 obtain ⟨a, len, cap, rfl⟩ := okWide_slice ht hv
 obtain ⟨fuel, hf⟩ := h
 exact open_cellsI ht he hc (v := .slice a len cap) hf
end
def laidV {H : Type} : List (String × DataW H) := [("math/bits.deBruijn64tab", Rows.laid_math_bits_deBruijn64tab)]
theorem gTab : Tryz.prog.globalNamed "math/bits.deBruijn64tab" = some 0 := by kernel_rfl
theorem tTab : (Tryz.prog.globals[0]?).map (·.type) = some 239 := by kernel_rfl
theorem cells1 : Tryz.prog.cellsOf 5 = 1 := by kernel_rfl
theorem door_met (os : Os) (args : Array Value) : laidMetH Tryz.prog laidV ((World.doorLaid Tryz.prog 400 os).forCall (fun _ _ => 0) ⟨#[], args, []⟩).memory :=
 laidMetH_of_parts3 (fuel := 8) (laidMet_of_run' 8 (by kernel_rfl) (by kernel_rfl)) (by kernel_rfl) (by kernel_rfl)
theorem tab_list {H : Type} : (Rows.laid_math_bits_deBruijn64tab : DataW H) = .agg (Lib.deBruijn64tab.map fun (n : Nat) => .lit (.int .u8 (n : Int))) := rfl
theorem tab_len : Lib.deBruijn64tab.length = 64 := by decide
theorem of_laid {W : World} (h : laidMetH Tryz.prog laidV W) : TZ W := by
 rw [MakeChecks.laidMetH_plain _ _ _ (by kernel_rfl)] at h
 obtain ⟨ps, ⟨g0, t0, cs0, f0, p0, q0, hg0, ht0, hv0, hd0, _, _⟩, _, _⟩ := h
 obtain rfl := Option.some.inj (gTab.symm.trans hg0)
 obtain rfl := Option.some.inj (tTab.symm.trans ht0)
 obtain ⟨xs, m, rfl, hx, hlen, hn, hel⟩ := DataW.trod_array Tryz.underlying239 hd0
 rw [cells1] at hel
 rw [tab_list] at hx
 simp only [Prod.mk.injEq, DataW.agg.injEq] at hx
 intro j hj
 rw [tab_len] at hj
 have h1 := hel j hj
 have hL : (xs.map (·.1))[j]? = some (.lit (.int .u8 ((Lib.deBruijn64tab.getD j 0 : Nat) : Int))) := by
  rw [← hx.1, List.getElem?_map, List.getD_eq_getElem?_getD, List.getElem?_eq_getElem (by rw [tab_len]; exact hj)]
  rfl
 rw [List.getElem?_map, Option.map_eq_some_iff] at hL
 obtain ⟨x, hxi, hxa⟩ := hL
 rw [hxi] at h1
 obtain ⟨k0, e0, f0, _⟩ := DataW.trod_int Tryz.underlying5 (show _ = some x from h1)
 rw [f0] at hxa
 simp at hxa
 subst hxa
 have v0 := World.var?_cell hg0 hv0 j
 have q0 : ((cs0.toList.drop j).take 1)[0]? = some (.int .u8 ((Lib.deBruijn64tab.getD j 0 : Nat) : Int)) := by
  have e1 := e0
  rw [Nat.mul_one] at e1
  rw [e1]
  rfl
 rw [List.getElem?_take_of_lt (by omega), List.getElem?_drop, Nat.add_zero, Array.getElem?_toList] at q0
 exact v0.trans q0
end Go.Proofs.YthijbipidbjpfaaGreatDoor
