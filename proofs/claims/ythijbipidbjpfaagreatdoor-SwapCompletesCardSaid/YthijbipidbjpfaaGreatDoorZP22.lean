import Derived.Test.YthijbipidbjpfaaGreatDoorZP21
import Derived.Test.YthijbipidbjpfaaGreatDoorZP00
import Derived.Test.YthijbipidbjpfaaGreatDoorZP03
import Derived.Test.YthijbipidbjpfaaGreatDoorZP14
import Derived.Test.YthijbipidbjpfaaGreatDoorZP06
import Derived.Test.YthijbipidbjpfaaGreatDoorZP18
import Derived.Test.YthijbipidbjpfaaGreatDoorZP04
set_option linter.unusedSimpArgs false
set_option linter.unusedVariables false
set_option maxRecDepth 100000
set_option maxHeartbeats 8000000
namespace Go.Proofs.YthijbipidbjpfaaGreatDoor
open Go.RowKit Go.Maps
theorem awake_any(w:World)(hz:TZ w):Calls Tryz.prog 12 #[] w fun e w'=>e=.returned (.bool true)∧Below w.heap.size w w':=by
 have HTZ:=Lib.hid hz;have HW0:0<w.heap.size:=hz.pos;clear hz
 go_enter Tryz.func12,Tryz.ntmps12
 have hCk2:=SwNew_any 2 3 1 w (.inl (by omega));rw[kn_new] at hCk2;(try dsimp only at hCk2);replace hCk2:=Lib.hid hCk2;go_wp2_with fail;refine hCk2.out.mono ?_;rintro ek4 wk3 ⟨⟨ak1_0,ck1_0,ak1_1,ck1_1,ak1_2,ck1_2,ak1_3,ck1_3,ak1_4,ck1_4,ak1_5,ck1_5,ak1_6,ck1_6,ak1_7,ck1_7⟩,rfl,ho,hbk5⟩;have Bk6:=hbk5;clear hbk5 hCk2;(try unfold swV swC);(try dsimp only);go_upto_region 2 with fail;obtain⟨Vk7,hVk7⟩:∃ V,wk3.alloc (.cells (zkx kn0 ak1_0 ck1_0 ak1_1 ck1_1 ak1_2 ck1_2 ak1_3 ck1_3 ak1_4 ck1_4 ak1_5 ck1_5 ak1_6 ck1_6 ak1_7 ck1_7).toArray 35)=V:=⟨_,rfl⟩;have ks:=za hVk7;have hbVk7:=zab hVk7;(try rw[hVk7]);clear hVk7;have HSs:=Lib.hid (ho.sw.ext hbVk7);clear ho;have Bk8:=zbt Bk6 hbVk7;clear hbVk7
 have hHWk10:∀ V,Below Vk7.heap.size Vk7 V→_:=fun V hV=>WriteOut_any ⟨ak1_0,ck1_0,ak1_1,ck1_1,ak1_2,ck1_2,ak1_3,ck1_3,ak1_4,ck1_4,ak1_5,ck1_5,ak1_6,ck1_6,ak1_7,ck1_7⟩ kn0 5 2 xC V (SwA.of (HSs.out.ext hV) kn_ok0 kn_l0) (HTZ.out.ext HW0 (Bk8.trans (hV.mono Bk8.size)))
 rw[kn_w1] at hHWk10;have HWk10:=Lib.hid hHWk10;clear hHWk10;go_wp2_with fail;refine zrg [1,1,2,0,0,0,0,2,3,0,0] [[],[],[],[2],[3],[3],[3],[],[],[5],[6]] [.kn ?_,.kn (.agg (zkk 1 2 3 4 5 6 7 9223372036854775808).toArray),.has (SwF kn1 [.int .i64 0,.int .i64 0]),.fn [2] fst_,.fn [3] (fun l=>tupAt (fst_ l) 0),.fn [3] (fun l=>tupAt (fst_ l) 1),.fn [3] (fun l=>tupAt (fst_ l) 2),.has (VarN 35 zkz),.late,.fn [5] fst_,.fn [6] fst_] [8] (lts_kn (lts_kn (lts_has (SwF.lasts kn1 [.int .i64 0,.int .i64 0]) (lts_fn (lts_fn (lts_fn (lts_fn (lts_has (VarN.lasts 35 zkz) (lts_late (lts_fn (lts_fn lts_nil))))))))))) (fun W0 hb0 hz0 => ?_)
 rotate_left 1
 have kW:=ks.below_ hb0 ks.lt;have zW:=kW.lt;obtain⟨p0,p1,p2,p3,p4,p5,p6,p7,p8,p9,p10⟩:=zc11 kW;refine zqT (fun w hbw hd => ?_) ?_
 ·have r0:=cell_keep hbw p0 zW
  have r1:=cell_keep hbw p1 zW;have r2:=cell_keep hbw p2 zW;have r3:=cell_keep hbw p3 zW;have r4:=cell_keep hbw p4 zW;have r5:=cell_keep hbw p5 zW;have r6:=cell_keep hbw p6 zW;have r7:=cell_keep hbw p7 zW;have r8:=cell_keep hbw p8 zW;have r9:=cell_keep hbw p9 zW;have r10:=cell_keep hbw p10 zW;exact zgs
 refine zqc (fun w hbw hd K Q' hK => ?_) ?_
 ·clear hd
  go_simp;refine (x_any _).mono ?_;rintro e y ⟨rfl,hy⟩;unfold ctV ctC xC;dsimp only;go_wp2_with fail;exact hK.out _ _ _ zpt zbm rfl
 refine zqh (fun w hbw hd K Q' hK => ?_) (fun vwa2 => ?_)
 ·clear hd
  go_simp;refine (HWk10.out _ (hb0.trans (hbw.mono hb0.size))).mono ?_;rintro e y ⟨⟨ak9_0,ck9_0,ak9_1,ck9_1,ak9_2,ck9_2,ak9_3,ck9_3,ak9_4,ck9_4,ak9_5,ck9_5,ak9_6,ck9_6,ak9_7,ck9_7⟩,rfl,ho,hy⟩;unfold swV swC;go_wp2_with fail;exact hK.out (.tuple #[.agg (zkx kn1 ak9_0 ck9_0 ak9_1 ck9_1 ak9_2 ck9_2 ak9_3 ck9_3 ak9_4 ck9_4 ak9_5 ck9_5 ak9_6 ck9_6 ak9_7 ck9_7).toArray,.int .i64 0,.int .i64 0]) _ _ zpt zbm ⟨⟨ak9_0,ck9_0,ak9_1,ck9_1,ak9_2,ck9_2,ak9_3,ck9_3,ak9_4,ck9_4,ak9_5,ck9_5,ak9_6,ck9_6,ak9_7,ck9_7⟩,rfl,ho⟩
 refine zqf (vwa2) ?_;refine zqF (tupAt (vwa2) 0) (fun w0 hd w => ?_) ?_
 ·obtain⟨_,_,⟨ak9_0,ck9_0,ak9_1,ck9_1,ak9_2,ck9_2,ak9_3,ck9_3,ak9_4,ck9_4,ak9_5,ck9_5,ak9_6,ck9_6,ak9_7,ck9_7⟩,rfl,_⟩:∃ lo hi,SwF kn1 [.int .i64 0,.int .i64 0] vwa2 lo hi w0:=hd 2 _ _ (by kernel_rfl) rfl rfl
  unfold swV swC;exact zsr
 refine zqF (tupAt (vwa2) 1) (fun w0 hd w => ?_) ?_
 ·obtain⟨_,_,⟨ak9_0,ck9_0,ak9_1,ck9_1,ak9_2,ck9_2,ak9_3,ck9_3,ak9_4,ck9_4,ak9_5,ck9_5,ak9_6,ck9_6,ak9_7,ck9_7⟩,rfl,_⟩:∃ lo hi,SwF kn1 [.int .i64 0,.int .i64 0] vwa2 lo hi w0:=hd 2 _ _ (by kernel_rfl) rfl rfl
  unfold swV swC;exact zsr
 refine zqF (tupAt (vwa2) 2) (fun w0 hd w => ?_) ?_
 ·obtain⟨_,_,⟨ak9_0,ck9_0,ak9_1,ck9_1,ak9_2,ck9_2,ak9_3,ck9_3,ak9_4,ck9_4,ak9_5,ck9_5,ak9_6,ck9_6,ak9_7,ck9_7⟩,rfl,_⟩:∃ lo hi,SwF kn1 [.int .i64 0,.int .i64 0] vwa2 lo hi w0:=hd 2 _ _ (by kernel_rfl) rfl rfl
  unfold swV swC;exact zsr
 refine zqh (fun w hbw hd K Q' hK => ?_) (fun vwa7 => ?_)
 ·clear hd
  go_simp;exact hK.out (.pointer (some ⟨w.heap.size,0,none⟩)) _ _ zpt zbm ⟨_,rfl,Blk.new_ rfl rfl,Nat.le_refl _,by simp⟩
 refine zql ?_;refine zqf (tupAt (vwa2) 1) ?_;refine zqf (tupAt (vwa2) 2) ?_;refine chn_end (fun wz lo hi hbz hd hR => ?_);obtain⟨⟨ak9_0,ck9_0,ak9_1,ck9_1,ak9_2,ck9_2,ak9_3,ck9_3,ak9_4,ck9_4,ak9_5,ck9_5,ak9_6,ck9_6,ak9_7,ck9_7⟩,rfl,ho⟩:SwF kn1 [.int .i64 0,.int .i64 0] vwa2 (lo 2) (hi 2) wz:=hd 2 _ _ rfl rfl;obtain⟨btk11,rfl,kb,hlo,hhi⟩:VarN 35 zkz vwa7 (lo 7) (hi 7) wz:=hd 7 _ _ rfl rfl;have hWlo:=(hR.2 7 _ rfl).1;have hsz:=hb0.size;have BZ:Below Vk7.heap.size Vk7 wz:=hb0.trans (hbz.mono hsz);clear hd hR p0 p1 p2 p3 p4 p5 p6 p7 p8 p9 p10;unfold swV swC;simp only[tupAt,List.getD_cons_succ,List.getD_cons_zero,Array.getD_eq_getD_getElem?,zy5,zy6,zy7,Option.getD_some];have zb:=kb.lt;obtain⟨y0,y1,y2,y3,y4,y5,y6,y7,y8,y9,y10⟩:=zc11 kb;obtain⟨yf0,yf1,yf2,yf3,yf4,yf5,yf6,yf7,yf8,yf9,yf10,-⟩:=zf kb;refine late_one (by simp only[zy5,zy6,zy7];rfl) (fun K Q' hK => ?_);go_simp;refine hK.out _ ?_;clear hK K Q';obtain⟨Uk12,hUk12⟩:∃ U,setN wz btk11 0 (zkx kn1 ak9_0 ck9_0 ak9_1 ck9_1 ak9_2 ck9_2 ak9_3 ck9_3 ak9_4 ck9_4 ak9_5 ck9_5 ak9_6 ck9_6 ak9_7 ck9_7)=U:=⟨_,rfl⟩;have hUk12n:=zs11 hUk12;have ka:=zsw hUk12 kb;have HSa:=Lib.hid (ho.farT kb (zkx kn1 ak9_0 ck9_0 ak9_1 ck9_1 ak9_2 ck9_2 ak9_3 ck9_3 ak9_4 ck9_4 ak9_5 ck9_5 ak9_6 ck9_6 ak9_7 ck9_7)).sw;rw[hUk12] at HSa;have hbUk12:=zbw hUk12 BZ (by omega);rw[hUk12n];clear hUk12n hUk12 ho kb zb hlo hhi hWlo hb0 hz0 hbz BZ zW kW hsz y0 yf0 y1 yf1 y2 yf2 y3 yf3 y4 yf4 y5 yf5 y6 yf6 y7 yf7 y8 yf8 y9 yf9 y10 yf10;replace ks:=ks.below_ hbUk12 ks.lt;replace HSs:=Lib.hid (HSs.out.ext hbUk12);have Bk13:=zbt Bk8 hbUk12;clear hbUk12 HWk10;have zka:=ka.lt;obtain⟨q0,q1,q2,q3,q4,q5,q6,q7,q8,q9,q10⟩:=zc11 ka;have hCk14:=Hinders_any ⟨ak9_0,ck9_0,ak9_1,ck9_1,ak9_2,ck9_2,ak9_3,ck9_3,ak9_4,ck9_4,ak9_5,ck9_5,ak9_6,ck9_6,ak9_7,ck9_7⟩ kn1 Uk12 (SwA.of HSa.out kn_ok1 kn_l1) (HTZ.out.ext HW0 Bk13);rw[kn_h1] at hCk14;(try dsimp only at hCk14);replace hCk14:=Lib.hid hCk14;go_wp2_with fail;refine hCk14.out.mono ?_;rintro ek16 wk15 ⟨lA,lc,rfl,hSl,hbk17⟩;clear zka q0 q1 q2 q3 q4 q5 q6 q7 q8 q9 q10;replace ks:=ks.below_ hbk17 ks.lt;replace HSs:=Lib.hid (HSs.out.ext hbk17);replace ka:=ka.below_ hbk17 ka.lt;replace HSa:=Lib.hid (HSa.out.ext hbk17);have Bk18:=zbt Bk13 hbk17;clear hbk17 hCk14;(try unfold swV swC);(try dsimp only);rw[show ([2]:List Int).length=1 from rfl];go_upto_region 4 with fail;(try dsimp only at hSl);have HSl:=Lib.hid hSl;clear hSl;have zka:=ka.lt;obtain⟨q0,q1,q2,q3,q4,q5,q6,q7,q8,q9,q10⟩:=zc11 ka;have hCk20:=SwClaim_any ⟨ak9_0,ck9_0,ak9_1,ck9_1,ak9_2,ck9_2,ak9_3,ck9_3,ak9_4,ck9_4,ak9_5,ck9_5,ak9_6,ck9_6,ak9_7,ck9_7⟩ kn1 0 3 wk15 (SwA.of HSa.out kn_ok1 kn_l1) (HTZ.out.ext HW0 Bk18);rw[kn_c2] at hCk20;(try dsimp only at hCk20);replace hCk20:=Lib.hid hCk20;go_wp2_with fail;refine hCk20.out.mono ?_;rintro ek22 wk21 ⟨⟨ak19_0,ck19_0,ak19_1,ck19_1,ak19_2,ck19_2,ak19_3,ck19_3,ak19_4,ck19_4,ak19_5,ck19_5,ak19_6,ck19_6,ak19_7,ck19_7⟩,rfl,ho,hbk23⟩;clear zka q0 q1 q2 q3 q4 q5 q6 q7 q8 q9 q10;replace ks:=ks.below_ hbk23 ks.lt;replace HSs:=Lib.hid (HSs.out.ext hbk23);replace ka:=ka.below_ hbk23 ka.lt;replace HSa:=Lib.hid (HSa.out.ext hbk23);replace HSl:=Lib.hid (HSl.out.ext hbk23);have Bk24:=zbt Bk18 hbk23;clear hbk23 hCk20;(try unfold swV swC);(try dsimp only);go_upto_region 5 with fail;obtain⟨Vk25,hVk25⟩:∃ V,wk21.alloc (.cells (zkx kn2 ak19_0 ck19_0 ak19_1 ck19_1 ak19_2 ck19_2 ak19_3 ck19_3 ak19_4 ck19_4 ak19_5 ck19_5 ak19_6 ck19_6 ak19_7 ck19_7).toArray 35)=V:=⟨_,rfl⟩;have kb:=za hVk25;have hbVk25:=zab hVk25;(try rw[hVk25]);clear hVk25;have HSb:=Lib.hid (ho.sw.ext hbVk25);clear ho;replace ks:=ks.below_ hbVk25 ks.lt;replace HSs:=Lib.hid (HSs.out.ext hbVk25);replace ka:=ka.below_ hbVk25 ka.lt;replace HSa:=Lib.hid (HSa.out.ext hbVk25);replace HSl:=Lib.hid (HSl.out.ext hbVk25);have Bk26:=zbt Bk24 hbVk25;clear hbVk25;have zkb:=kb.lt;obtain⟨q0,q1,q2,q3,q4,q5,q6,q7,q8,q9,q10⟩:=zc11 kb;have hCk28:=Complete_any ⟨ak19_0,ck19_0,ak19_1,ck19_1,ak19_2,ck19_2,ak19_3,ck19_3,ak19_4,ck19_4,ak19_5,ck19_5,ak19_6,ck19_6,ak19_7,ck19_7⟩ kn2 0 Vk25 (SwA.of HSb.out kn_ok2 kn_l2) (HTZ.out.ext HW0 Bk26);rw[kn_c3] at hCk28;(try dsimp only at hCk28);replace hCk28:=Lib.hid hCk28;go_wp2_with fail;refine hCk28.out.mono ?_;rintro ek30 wk29 ⟨⟨ak27_0,ck27_0,ak27_1,ck27_1,ak27_2,ck27_2,ak27_3,ck27_3,ak27_4,ck27_4,ak27_5,ck27_5,ak27_6,ck27_6,ak27_7,ck27_7⟩,rfl,ho,hbk31⟩;clear zkb q0 q1 q2 q3 q4 q5 q6 q7 q8 q9 q10;replace ks:=ks.below_ hbk31 ks.lt;replace HSs:=Lib.hid (HSs.out.ext hbk31);replace ka:=ka.below_ hbk31 ka.lt;replace HSa:=Lib.hid (HSa.out.ext hbk31);replace kb:=kb.below_ hbk31 kb.lt;replace HSb:=Lib.hid (HSb.out.ext hbk31);replace HSl:=Lib.hid (HSl.out.ext hbk31);have Bk32:=zbt Bk26 hbk31;clear hbk31 hCk28;(try unfold swV swC);(try dsimp only);unfold dnV dnC kd3 ctC xC;(try dsimp only);go_upto_region 6 with fail;obtain⟨Vk33,hVk33⟩:∃ V,(wk29.alloc (.cells (zkx kn3 ak27_0 ck27_0 ak27_1 ck27_1 ak27_2 ck27_2 ak27_3 ck27_3 ak27_4 ck27_4 ak27_5 ck27_5 ak27_6 ck27_6 ak27_7 ck27_7).toArray 35)).alloc (.cells (zkn true 0 5 3 1 2 3 4 5 6 7 9223372036854775808).toArray 55)=V:=⟨_,rfl⟩;have kc:=za1 hVk33;have kd:=za2 hVk33;have hbVk33:=zabb hVk33;(try rw[hVk33]);clear hVk33;have HSc:=Lib.hid (ho.sw.ext hbVk33);clear ho;replace ks:=ks.below_ hbVk33 ks.lt;replace HSs:=Lib.hid (HSs.out.ext hbVk33);replace ka:=ka.below_ hbVk33 ka.lt;replace HSa:=Lib.hid (HSa.out.ext hbVk33);replace kb:=kb.below_ hbVk33 kb.lt;replace HSb:=Lib.hid (HSb.out.ext hbVk33);replace HSl:=Lib.hid (HSl.out.ext hbVk33);have Bk34:=zbt Bk32 hbVk33;clear hbVk33
 have HSI:Hid (∀ g V,Below Vk33.heap.size Vk33 V→Blk V g 3 #[.int .i64 2]→Calls Tryz.prog 20 #[.slice lA 1 lc,.slice (some ⟨g,0,none⟩) 1 1] V fun e w'=>e=.returned (.bool true)∧Below V.heap.size V w'):=by
  show ∀ g V,_
  intro g V hV kg;exact SameInts_any lA (some ⟨g,0,none⟩) lc 1 [2] [2] V (HSl.out.ext hV).sl (Sl.of_lit (t:=3) (xs:=[2]) kg) (by simp) (by simp)
 have HQ:Hid (∀ V,(Op.equalIn 9999 38 (.agg (zkk 1 2 3 4 5 6 7 9223372036854775808).toArray) (.agg (zkk 1 2 3 4 5 6 7 9223372036854775808).toArray)).run Tryz.prog V=.ok true V):=fun V=>eqIn_ct V xC xC
 have HL2:Hid (((kn3.sl.refs.length:Int) == 2)=true):=by show _=_;rw[kn_refs3];rfl
 have HL1:Hid (0<kn3.sl.refs.length):=by show 0<_;rw[kn_refs3];decide
 have HCK:Hid (∀ V,Below Vk33.heap.size Vk33 V→Calls Tryz.prog 18 #[swV ⟨ak27_0,ck27_0,ak27_1,ck27_1,ak27_2,ck27_2,ak27_3,ck27_3,ak27_4,ck27_4,ak27_5,ck27_5,ak27_6,ck27_6,ak27_7,ck27_7⟩ kn3] V fun e w'=>e=.returned (.int .i64 0)∧Below V.heap.size V w'):=by
  show ∀ V,_
  intro V hV;have h:=wCheck_any ⟨ak27_0,ck27_0,ak27_1,ck27_1,ak27_2,ck27_2,ak27_3,ck27_3,ak27_4,ck27_4,ak27_5,ck27_5,ak27_6,ck27_6,ak27_7,ck27_7⟩ kn3 V (SwA.of (HSc.out.ext hV) kn_ok3 kn_l3) (HTZ.out.ext HW0 (Bk34.trans (hV.mono Bk34.size)));rw[kn_chk3] at h;exact h
 obtain⟨rb,ro,rx,hA1,rl,hrx,hrc⟩:=HSc.out.r0.at_ (k:=0) (by rw[kn_refs3];decide)
 have cr:Vk33.cell? ⟨rb,ro,none⟩=some (.int .i64 1):=by
  have:=hrc 0 _ rfl;rw[kn_refs3] at hrx;simp at hrx;subst hrx;simpa using this
 dsimp only at hA1;subst hA1;clear hrx hrc;refine wp_region_chain (.is ?fla0::.is ?fla1::.is ?fla2::.is ?fla3::.is ?fla4::.is ?fla5::.is ?fla6::.is ?fla7::.is ?fla8::.is ?fla9::.is ?fla10::.is ?fla11::.is ?fla12::.is ?fla13::.is ?fla14::.is ?fla15::.has (LitS 3 1 [.int .i64 2])::.is (.bool true)::.is ?fla18::.is ?fla19::.is ?fla20::.is ?fla21::.is ?fla22::.is ?fla23::.is ?fla24::.is ?fla25::.is ?fla26::.is ?fla27::.is ?fla28::.is (.agg (zkk 1 2 3 4 5 6 7 9223372036854775808).toArray)::.is ?fla30::.is ?fla31::.is ?fla32::.is ?fla33::.is ?fla34::.is ?fla35::.is ?fla36::.is ?fla37::.is ?fla38::.is ?fla39::.is ?fla40::.is ?fla41::.is ?fla42::.is ?fla43::.is ?fla44::.is ?fla45::.is ?fla46::.is ?fla47::.is ?fla48::.is ?fla49::.is (.int .i64 0)::.is ?fla51::.is ?fla52::.is ?fla53::[]) (by kernel_rfl) (by kernel_rfl) (by kernel_rfl) (lasts_is (lasts_is (lasts_is (lasts_is (lasts_is (lasts_is (lasts_is (lasts_is (lasts_is (lasts_is (lasts_is (lasts_is (lasts_is (lasts_is (lasts_is (lasts_is (lasts_has (LitS.lasts 3 1 [.int .i64 2]) (lasts_is (lasts_is (lasts_is (lasts_is (lasts_is (lasts_is (lasts_is (lasts_is (lasts_is (lasts_is (lasts_is (lasts_is (lasts_is (lasts_is (lasts_is (lasts_is (lasts_is (lasts_is (lasts_is (lasts_is (lasts_is (lasts_is (lasts_is (lasts_is (lasts_is (lasts_is (lasts_is (lasts_is (lasts_is (lasts_is (lasts_is (lasts_is (lasts_is (lasts_is (lasts_is (lasts_is (lasts_is lasts_nil)))))))))))))))))))))))))))))))))))))))))))))))))))))) (fun W0 hb0 hz0 => ?_)
 rotate_left 50
 have kW:=kc.below_ hb0 kc.lt;have zW:=kW.lt;have kN:=kd.below_ hb0 kd.lt;have zN:=kN.lt;have pr:=cell_keep hb0 cr rl;have zR:rb<W0.heap.size:=Nat.lt_of_lt_of_le rl hb0.size;obtain⟨p0,p1,p2,p3,p4,p5,p6,p7,p8,p9,p10⟩:=zc11 kW;obtain⟨n0,n1,n2,n3,n4,n5,n6,n7,n8,n9,n10,n11⟩:=zc12 kN;refine zot ?_;refine zot ?_;refine zot ?_;refine zot ?_;refine zot ?_;refine zot ?_;refine zot ?_;refine zot ?_;refine zot ?_;refine zot ?_;refine zot ?_;refine zot ?_;refine zot ?_;refine zot ?_;refine zot ?_;refine zot ?_;refine chain_has ?sla16 (fun vla16 => ?rla16)
 case sla16=>
  intro w hbw hd K Q' hK;clear hd;go_simp;go_wp2_with fail;refine hK.out (.slice (some ⟨w.heap.size,0,none⟩) 1 1) _ _ ?_ ?_ ?_
  ·(simp only[Act.put,zy0,zy1,zy2,List.nil_append,List.cons_append])
  ·exact zbm
  ·exact⟨_,rfl,Blk.new_ rfl rfl⟩
 (try simp only[Act.put,zy0,zy1,zy2,List.nil_append,List.cons_append]);refine chain_is ?sla17 ?rla17
 case sla17=>
  intro w hbw hd K Q' hK;obtain⟨g,rfl,kg⟩:LitS 3 1 [.int .i64 2] _ w:=hd 16 _ _ (by rfl) rfl rfl;clear hd;go_simp;refine (HSI.out g w (hb0.trans (hbw.mono hb0.size)) kg).mono ?_;rintro e y ⟨rfl,hy⟩;go_wp2_with fail;refine hK.out (.bool true) _ _ ?_ ?_ rfl
  ·(simp only[Act.put,zy0,zy1,zy2,List.nil_append,List.cons_append])
  ·exact zbm
 (try simp only[Act.put,zy0,zy1,zy2,List.nil_append,List.cons_append]);refine zot ?_;refine zot ?_;refine zot ?_;refine zot ?_;refine zot ?_;refine zot ?_;refine zot ?_;refine zot ?_;refine zot ?_;refine zot ?_;refine zoT (fun w hbw hd => ?_) ?_
 ·have r0:=cell_keep hbw n0 zN
  have r1:=cell_keep hbw n1 zN;have r2:=cell_keep hbw n2 zN;have r3:=cell_keep hbw n3 zN;have r4:=cell_keep hbw n4 zN;have r5:=cell_keep hbw n5 zN;have r6:=cell_keep hbw n6 zN;have r7:=cell_keep hbw n7 zN;have r8:=cell_keep hbw n8 zN;have r9:=cell_keep hbw n9 zN;have r10:=cell_keep hbw n10 zN;have r11:=cell_keep hbw n11 zN;exact zgs
 refine chain_is ?sla29 ?rla29
 case sla29=>
  intro w hbw hd K Q' hK;clear hd;go_simp;refine (x_any _).mono ?_;rintro e y ⟨rfl,hy⟩;unfold ctV ctC xC;dsimp only;go_wp2_with fail;refine hK.out (.agg (zkk 1 2 3 4 5 6 7 9223372036854775808).toArray) _ _ ?_ ?_ rfl
  ·(simp only[Act.put,zy0,zy1,zy2,List.nil_append,List.cons_append])
  ·exact zbm
 (try simp only[Act.put,zy0,zy1,zy2,List.nil_append,List.cons_append]);refine zot ?_;refine zoT (fun w hbw hd => ?_) ?_
 ·have hq:=HQ.out w
  exact zgs
 refine zot ?_;refine zot ?_;refine zot ?_;refine zot ?_;refine zoT (fun w hbw hd => ?_) ?_
 ·have r1:=cell_keep hbw p1 zW
  exact zgs
 refine zot ?_;refine zoT (fun w hbw hd => ?_) ?_
 ·have hl:=HL2.out
  exact zgs
 refine zot ?_;refine zot ?_;refine zot ?_;refine zot ?_;refine zoT (fun w hbw hd => ?_) ?_
 ·have r1:=cell_keep hbw p1 zW
  exact zgs
 refine zoT (fun w hbw hd => ?_) ?_
 ·have hl:=HL1.out
  exact zgs
 refine zoT (fun w hbw hd => ?_) ?_
 ·have r0:=cell_keep hbw pr zR
  exact zgs
 refine zot ?_;refine zot ?_;refine zot ?_;refine zoT (fun w hbw hd => ?_) ?_
 ·have r0:=cell_keep hbw p0 zW
  have r1:=cell_keep hbw p1 zW;have r2:=cell_keep hbw p2 zW;have r3:=cell_keep hbw p3 zW;have r4:=cell_keep hbw p4 zW;have r5:=cell_keep hbw p5 zW;have r6:=cell_keep hbw p6 zW;have r7:=cell_keep hbw p7 zW;have r8:=cell_keep hbw p8 zW;have r9:=cell_keep hbw p9 zW;have r10:=cell_keep hbw p10 zW;exact zgs
 refine chain_is ?sla50 ?rla50
 case sla50=>
  intro w hbw hd K Q' hK;clear hd;go_simp;refine (HCK.out w (hb0.trans (hbw.mono hb0.size))).mono ?_;rintro e y ⟨rfl,hy⟩;go_wp2_with fail;refine hK.out (.int .i64 0) _ _ ?_ ?_ rfl
  ·(simp only[Act.put,zy0,zy1,zy2,List.nil_append,List.cons_append])
  ·exact zbm
 (try simp only[Act.put,zy0,zy1,zy2,List.nil_append,List.cons_append]);refine zot ?_;refine zot ?_;refine zot ?_;refine chain_end (fun wz hbz hd => ?_);go_wp2_with fail;go_ret;exact⟨rfl,Bk34.trans ((hb0.trans (hbz.mono hb0.size)).mono Bk34.size)⟩
def larW(s:Swp):Bool:=decide (40<s.sl.refs.length∨40<s.sl.busy.length∨40<s.dk.cells.length∨40<s.dk.jobs.length∨40<s.wr.length∨40<s.rd.length∨40<s.desc.length∨40<s.po.free.length)
theorem larW_few{s:Swp}(h:larW s=false):Few s:=by
 unfold larW at h;have:=of_decide_eq_false h;exact⟨by omega,by omega,by omega,by omega,by omega,by omega,by omega,by omega⟩
theorem large_any(L:Lay)(s:Swp)(w:World):Calls Tryz.prog 11 #[swV L s] w fun e w'=>e=.returned (.bool (larW s))∧Below w.heap.size w w':=by
 obtain⟨a0,c0,a1,c1,a2,c2,a3,c3,a4,c4,a5,c5,a6,c6,a7,c7⟩:=L;obtain⟨R,hR⟩:∃ R,larW s=R:=⟨_,rfl⟩;rw[hR];have HR:=Lib.hid hR;clear hR;unfold swV swC
 go_enter Tryz.func11,Tryz.ntmps11
 cases g0:decide ((s.sl.refs.length:Int)>40) with
 | true=>
  have HE:Hid (R=true):=by show _=_;rw[←HR.out];unfold larW;simp at g0;simp;omega
  go_wp2_with fail;go_ret;exact⟨ret_bool HE.out.symm,zbl⟩
 | false=>
  cases g1:decide ((s.sl.busy.length:Int)>40) with
  | true=>
   have HE:Hid (R=true):=by show _=_;rw[←HR.out];unfold larW;simp at g1;simp;omega
   go_wp2_with fail;go_ret;exact⟨ret_bool HE.out.symm,zbl⟩
  | false=>
   cases g2:decide ((s.dk.cells.length:Int)>40) with
   | true=>
    have HE:Hid (R=true):=by show _=_;rw[←HR.out];unfold larW;simp at g2;simp;omega
    go_wp2_with fail;go_ret;exact⟨ret_bool HE.out.symm,zbl⟩
   | false=>
    cases g3:decide ((s.dk.jobs.length:Int)>40) with
    | true=>
     have HE:Hid (R=true):=by show _=_;rw[←HR.out];unfold larW;simp at g3;simp;omega
     go_wp2_with fail;go_ret;exact⟨ret_bool HE.out.symm,zbl⟩
    | false=>
     cases g4:decide ((s.wr.length:Int)>40) with
     | true=>
      have HE:Hid (R=true):=by show _=_;rw[←HR.out];unfold larW;simp at g4;simp;omega
      go_wp2_with fail;go_ret;exact⟨ret_bool HE.out.symm,zbl⟩
     | false=>
      cases g5:decide ((s.rd.length:Int)>40) with
      | true=>
       have HE:Hid (R=true):=by show _=_;rw[←HR.out];unfold larW;simp at g5;simp;omega
       go_wp2_with fail;go_ret;exact⟨ret_bool HE.out.symm,zbl⟩
      | false=>
       cases g6:decide ((s.desc.length:Int)>40) with
       | true=>
        have HE:Hid (R=true):=by show _=_;rw[←HR.out];unfold larW;simp at g6;simp;omega
        go_wp2_with fail;go_ret;exact⟨ret_bool HE.out.symm,zbl⟩
       | false=>
        cases g7:decide ((s.po.free.length:Int)>40) with
        | true=>
         have HE:Hid (R=true):=by show _=_;rw[←HR.out];unfold larW;simp at g7;simp;omega
         go_wp2_with fail;go_ret;exact⟨ret_bool HE.out.symm,zbl⟩
        | false=>
         have HE:Hid (R=false):=by show _=_;rw[←HR.out];unfold larW;simp at g0 g1 g2 g3 g4 g5 g6 g7;simp;omega
         go_wp2_with fail;go_ret;exact⟨ret_bool HE.out.symm,zbl⟩
theorem SR.slb{w:World}{A:Option Addr}{l:List Bool}(h:SR boolE w A l):Sl w .bool A l:=fun hp=>by
 obtain⟨b,off,e,hb,hc⟩:=h (SR.len_pos hp);refine⟨b,off,e,hb,fun k x hx => ?_⟩;have hk:=(List.getElem?_eq_some_iff.1 hx).1;obtain⟨b',off',y,e',_,hy,hcy⟩:=SR.at_ h hk;rw[e] at e';injection e' with e';injection e' with e1 e2
 subst e1 e2;rw[hx] at hy;cases hy;have:=hcy 0 (.bool x) rfl;simpa [boolE] using this
theorem samePool_refl(A B:Option Addr)(c d:Nat)(p:Pol)(w:World)(ha:SR intE w A p.free)(hb:SR intE w B p.free)(hl:p.free.length≤1000) :
  Calls Tryz.prog 71 #[.agg #[.int .i64 p.size,.slice A p.free.length c],.agg #[.int .i64 p.size,.slice B p.free.length d]] w fun e w'=>e=.returned (.bool true)∧Below w.heap.size w w':=by
 have HA:=Lib.hid ha;have HB:=Lib.hid hb;clear ha hb;obtain⟨X,hX⟩:∃ X,(w.alloc (.cells #[.int .i64 p.size,.slice A p.free.length c] 33)).alloc (.cells #[.int .i64 p.size,.slice B p.free.length d] 33)=X:=⟨_,rfl⟩;have kX:=za1 hX;have kY:=za2 hX;have BX:=zabb hX;have zX:=kX.lt;have zY:=kY.lt;obtain⟨p0,p1⟩:=zc2 kX;obtain⟨q0,q1⟩:=zc2 kY;have b0:(p.size == p.size)=true:=by simp
 go_enter Tryz.func71,Tryz.ntmps71
 go_wp2_with fail;(try rw[hX]);clear hX;have hC:=SameInts_any A B c d p.free p.free X (HA.out.ext BX).sl (HB.out.ext BX).sl (by omega) (by omega);rw[decide_eq_true rfl] at hC;refine hC.mono ?_;rintro e1 w1 ⟨rfl,hb1⟩;go_wp2_with fail;go_ret;exact⟨rfl,BX.trans (hb1.mono BX.size)⟩
theorem sameSlots_refl(A0 A1 B0 B1:Option Addr)(c0 c1 k0 k1:Nat)(t:Sts)(w:World)(ha:SR intE w A0 t.refs)(ha1:SR boolE w A1 t.busy)(hb:SR intE w B0 t.refs)(hb1:SR boolE w B1 t.busy)(hl:t.refs.length≤1000)(hl1:t.busy.length≤1000) :
  Calls Tryz.prog 70 #[.agg #[.slice A0 t.refs.length c0,.slice A1 t.busy.length c1],.agg #[.slice B0 t.refs.length k0,.slice B1 t.busy.length k1]] w fun e w'=>e=.returned (.bool true)∧Below w.heap.size w w':=by
 have HA:=Lib.hid ha;have HB:=Lib.hid hb;have HA1:=Lib.hid ha1;have HB1:=Lib.hid hb1;clear ha hb ha1 hb1;obtain⟨X,hX⟩:∃ X,(w.alloc (.cells #[.slice A0 t.refs.length c0,.slice A1 t.busy.length c1] 25)).alloc (.cells #[.slice B0 t.refs.length k0,.slice B1 t.busy.length k1] 25)=X:=⟨_,rfl⟩;have kX:=za1 hX;have kY:=za2 hX;have BX:=zabb hX;have zX:=kX.lt;have zY:=kY.lt;obtain⟨p0,p1⟩:=zc2 kX;obtain⟨q0,q1⟩:=zc2 kY
 go_enter Tryz.func70,Tryz.ntmps70
 go_wp2_with fail;(try rw[hX]);clear hX;have hC:=SameInts_any A0 B0 c0 k0 t.refs t.refs X (HA.out.ext BX).sl (HB.out.ext BX).sl (by omega) (by omega);rw[decide_eq_true rfl] at hC;refine hC.mono ?_;rintro e1 w1 ⟨rfl,hb1⟩;replace kX:=kX.below_ hb1 kX.lt;replace kY:=kY.below_ hb1 kY.lt;have B1_:=BX.trans (hb1.mono BX.size);clear p0 p1 q0 q1 zX zY hC;have zX:=kX.lt;have zY:=kY.lt;obtain⟨p0,p1⟩:=zc2 kX;obtain⟨q0,q1⟩:=zc2 kY;go_wp2_with fail;have hC:=SameBools_any A1 B1 c1 k1 t.busy t.busy w1 (HA1.out.ext B1_).slb (HB1.out.ext B1_).slb (by omega) (by omega);rw[decide_eq_true rfl] at hC;refine hC.mono ?_;rintro e2 w2 ⟨rfl,hb2⟩;go_wp2_with fail;go_ret;exact⟨rfl,B1_.trans (hb2.mono B1_.size)⟩
theorem sameDisk_refl(A0 A1 B0 B1:Option Addr)(c0 c1 k0 k1:Nat)(d:Dsk)(w:World)(ha:SR ctE w A0 d.cells)(ha1:SR jbE w A1 d.jobs)(hb:SR ctE w B0 d.cells)(hb1:SR jbE w B1 d.jobs)(hl0:d.cells.length≤1000)(hl1:d.jobs.length≤1000) :
  Calls Tryz.prog 72 #[.agg #[.slice A0 d.cells.length c0,.slice A1 d.jobs.length c1,.int .i64 d.room],.agg #[.slice B0 d.cells.length k0,.slice B1 d.jobs.length k1,.int .i64 d.room]] w fun e w'=>e=.returned (.bool true)∧Below w.heap.size w w':=by
 have H0:=Lib.hid ha;have H1:=Lib.hid ha1;have H2:=Lib.hid hb;have H3:=Lib.hid hb1;clear ha hb ha1 hb1;have r0:(d.room != d.room)=false:=by simp
 have r1:((d.cells.length:Int) != d.cells.length)=false:=by simp
 have r2:((d.jobs.length:Int) != d.jobs.length)=false:=by simp
 obtain⟨X,hX⟩:∃ X,(w.alloc (.cells #[.slice A0 d.cells.length c0,.slice A1 d.jobs.length c1,.int .i64 d.room] 31)).alloc (.cells #[.slice B0 d.cells.length k0,.slice B1 d.jobs.length k1,.int .i64 d.room] 31)=X:=⟨_,rfl⟩;have kX:=za1 hX;have kY:=za2 hX;have BX:=zabb hX;have zX:=kX.lt;have zY:=kY.lt;obtain⟨p0,p1,p2⟩:=zc3 kX;obtain⟨q0,q1,q2⟩:=zc3 kY;replace H0:=Lib.hid (H0.out.ext BX);replace H1:=Lib.hid (H1.out.ext BX);replace H2:=Lib.hid (H2.out.ext BX);replace H3:=Lib.hid (H3.out.ext BX)
 go_enter Tryz.func72,Tryz.ntmps72
 go_wp2_with fail;(try rw[hX]);clear hX zX zY p0 q0 p1 q1 p2 q2
 go_loopw [5] (fun i wr=>∃ k:Nat,k≤d.cells.length∧i=.int .i64 k∧Below X.heap.size X wr) (fun i _=>d.cells.length - (intOf i).toNat)
 case atStart=>exact⟨0,by omega,rfl,Below.refl _ _⟩
 case round=>
  obtain⟨k,hk,rfl,hbw⟩:=hrel;have zX:=kX.lt;have zY:=kY.lt;have zw:=hbw.size;have p0:=cell_keep hbw (show X.cell? ⟨w.heap.size,0,none⟩=some (.slice A0 d.cells.length c0) by simpa using kX.cell_ 0) zX;have q0:=cell_keep hbw (show X.cell? ⟨w.heap.size+1,0,none⟩=some (.slice B0 d.cells.length k0) by simpa using kY.cell_ 0) zY;have zX2:w.heap.size<wr.heap.size:=Nat.lt_of_lt_of_le zX zw;have zY2:w.heap.size+1<wr.heap.size:=Nat.lt_of_lt_of_le zY zw
  by_cases hlt:k<d.cells.length
  ·obtain⟨b,off,y,hA,hbl,hy,hc⟩:=(H0.out.ext hbw).at_ hlt
   obtain⟨b2,off2,y2,hA2,hbl2,hy2,hc2⟩:=(H2.out.ext hbw).at_ hlt;obtain rfl:y=y2:=Option.some.inj (hy.symm.trans hy2);(try dsimp only at hA hA2);subst hA hA2;obtain⟨x0,x1,x2,x3,x4,x5,x6,x7⟩:=y;clear hy hy2;have i1:(k:Int)<d.cells.length:=by omega
   have e0:wr.cell? ⟨b,off+k*8,none⟩=some (.int .u64 x0):=hc 0 _ rfl;have f0:wr.cell? ⟨b2,off2+k*8,none⟩=some (.int .u64 x0):=hc2 0 _ rfl;have e1:wr.cell? ⟨b,off+k*8+1,none⟩=some (.int .u64 x1):=hc 1 _ rfl;have f1:wr.cell? ⟨b2,off2+k*8+1,none⟩=some (.int .u64 x1):=hc2 1 _ rfl;have e2:wr.cell? ⟨b,off+k*8+2,none⟩=some (.int .u64 x2):=hc 2 _ rfl;have f2:wr.cell? ⟨b2,off2+k*8+2,none⟩=some (.int .u64 x2):=hc2 2 _ rfl;have e3:wr.cell? ⟨b,off+k*8+3,none⟩=some (.int .u64 x3):=hc 3 _ rfl;have f3:wr.cell? ⟨b2,off2+k*8+3,none⟩=some (.int .u64 x3):=hc2 3 _ rfl;have e4:wr.cell? ⟨b,off+k*8+4,none⟩=some (.int .u64 x4):=hc 4 _ rfl;have f4:wr.cell? ⟨b2,off2+k*8+4,none⟩=some (.int .u64 x4):=hc2 4 _ rfl;have e5:wr.cell? ⟨b,off+k*8+5,none⟩=some (.int .u64 x5):=hc 5 _ rfl;have f5:wr.cell? ⟨b2,off2+k*8+5,none⟩=some (.int .u64 x5):=hc2 5 _ rfl;have e6:wr.cell? ⟨b,off+k*8+6,none⟩=some (.int .u64 x6):=hc 6 _ rfl;have f6:wr.cell? ⟨b2,off2+k*8+6,none⟩=some (.int .u64 x6):=hc2 6 _ rfl;have e7:wr.cell? ⟨b,off+k*8+7,none⟩=some (.int .u64 x7):=hc 7 _ rfl;have f7:wr.cell? ⟨b2,off2+k*8+7,none⟩=some (.int .u64 x7):=hc2 7 _ rfl;clear hc hc2
   have heq:Hid (∀ W,(Op.equalIn 10000 38 (.agg (zkk x0 x1 x2 x3 x4 x5 x6 x7).toArray) (.agg (zkk x0 x1 x2 x3 x4 x5 x6 x7).toArray)).run Tryz.prog W=.ok true W):=fun W=>(eq_ct W ⟨x0,x1,x2,x3,x4,x5,x6,x7⟩ ⟨x0,x1,x2,x3,x4,x5,x6,x7⟩).trans (by rw[decide_eq_true rfl])
   go_wp2_with fail;refine wp_region_chain [.is ?fsct0,.is ?fsct1,.is ?fsct2,.is ?fsct3,.is ?fsct4,.is ?fsct5,.is ?fsct6,.is ?fsct7,.is ?fsct8,.is ?fsct9,.is ?fsct10] (by kernel_rfl) (by kernel_rfl) (by kernel_rfl) (lasts_is (lasts_is (lasts_is (lasts_is (lasts_is (lasts_is (lasts_is (lasts_is (lasts_is (lasts_is (lasts_is lasts_nil))))))))))) (fun W0 hb0 hz0 => ?_)
   rotate_left 11
   replace p0:=cell_keep hb0 p0 zX2;replace q0:=cell_keep hb0 q0 zY2;replace e0:=cell_keep hb0 e0 hbl;replace e1:=cell_keep hb0 e1 hbl;replace e2:=cell_keep hb0 e2 hbl;replace e3:=cell_keep hb0 e3 hbl;replace e4:=cell_keep hb0 e4 hbl;replace e5:=cell_keep hb0 e5 hbl;replace e6:=cell_keep hb0 e6 hbl;replace e7:=cell_keep hb0 e7 hbl;replace f0:=cell_keep hb0 f0 hbl2;replace f1:=cell_keep hb0 f1 hbl2;replace f2:=cell_keep hb0 f2 hbl2;replace f3:=cell_keep hb0 f3 hbl2;replace f4:=cell_keep hb0 f4 hbl2;replace f5:=cell_keep hb0 f5 hbl2;replace f6:=cell_keep hb0 f6 hbl2;replace f7:=cell_keep hb0 f7 hbl2;replace hbl:=Nat.lt_of_lt_of_le hbl hb0.size;replace hbl2:=Nat.lt_of_lt_of_le hbl2 hb0.size;replace zX2:=Nat.lt_of_lt_of_le zX2 hb0.size;replace zY2:=Nat.lt_of_lt_of_le zY2 hb0.size;refine zot ?_;refine zoT (fun w hbw hd => ?_) ?_
   ·have r0:=cell_keep hbw p0 zX2
    exact zgs
   refine zot ?_;refine zot ?_;refine zoT (fun w hbw hd => ?_) ?_
   ·have r0:=cell_keep hbw e0 hbl
    have r1:=cell_keep hbw e1 hbl;have r2:=cell_keep hbw e2 hbl;have r3:=cell_keep hbw e3 hbl;have r4:=cell_keep hbw e4 hbl;have r5:=cell_keep hbw e5 hbl;have r6:=cell_keep hbw e6 hbl;have r7:=cell_keep hbw e7 hbl;exact zgs
   refine zot ?_;refine zoT (fun w hbw hd => ?_) ?_
   ·have r0:=cell_keep hbw q0 zY2
    exact zgs
   refine zot ?_;refine zot ?_;refine zoT (fun w hbw hd => ?_) ?_
   ·have r0:=cell_keep hbw f0 hbl2
    have r1:=cell_keep hbw f1 hbl2;have r2:=cell_keep hbw f2 hbl2;have r3:=cell_keep hbw f3 hbl2;have r4:=cell_keep hbw f4 hbl2;have r5:=cell_keep hbw f5 hbl2;have r6:=cell_keep hbw f6 hbl2;have r7:=cell_keep hbw f7 hbl2;exact zgs
   refine zoT (fun w hbw hd => ?_) ?_
   ·have hq:=heq.out w
    exact zgs
   refine chain_end (fun wz hbz hd => ?_);go_wp2_with fail;have bR:Below X.heap.size X wz:=hbw.trans ((hb0.trans (hbz.mono hb0.size)).mono hbw.size)
   go_roundw
   case rel=>exact⟨k+1,by omega,by go_num,bR⟩
   case measure=>simp[intOf];omega
  have i1:¬ ((k:Int)<d.cells.length):=by omega
  go_wp2_with fail;obtain⟨wr0,hwr0⟩:∃ V,V=wr:=⟨_,rfl⟩;subst hwr0;have hbw0:=hbw;clear hbw;have kX0:=kX.below_ hbw0 kX.lt;have kY0:=kY.below_ hbw0 kY.lt;replace H1:=Lib.hid (H1.out.ext hbw0);replace H3:=Lib.hid (H3.out.ext hbw0);clear i1 p0 q0 zX zY
  go_loopw [6] (fun i wr=>∃ k:Nat,k≤d.jobs.length∧i=.int .i64 k∧Below wr0.heap.size wr0 wr) (fun i _=>d.jobs.length - (intOf i).toNat)
  case atStart=>exact⟨0,by omega,rfl,Below.refl _ _⟩
  case round=>
   obtain⟨k,hk,rfl,hbw⟩:=hrel;have zX:=kX0.lt;have zY:=kY0.lt;have zw:=hbw.size;have p1:=cell_keep hbw (show wr0.cell? ⟨w.heap.size,1,none⟩=some (.slice A1 d.jobs.length c1) by simpa using kX0.cell_ 1) zX;have q1:=cell_keep hbw (show wr0.cell? ⟨w.heap.size+1,1,none⟩=some (.slice B1 d.jobs.length k1) by simpa using kY0.cell_ 1) zY;have zX2:w.heap.size<wr.heap.size:=Nat.lt_of_lt_of_le zX zw;have zY2:w.heap.size+1<wr.heap.size:=Nat.lt_of_lt_of_le zY zw
   by_cases hlt:k<d.jobs.length
   ·obtain⟨b,off,y,hA,hbl,hy,hc⟩:=(H1.out.ext hbw).at_ hlt
    obtain⟨b2,off2,y2,hA2,hbl2,hy2,hc2⟩:=(H3.out.ext hbw).at_ hlt;obtain rfl:y=y2:=Option.some.inj (hy.symm.trans hy2);(try dsimp only at hA hA2);subst hA hA2;obtain⟨jw,js,jf,⟨x0,x1,x2,x3,x4,x5,x6,x7⟩⟩:=y;clear hy hy2;have i1:(k:Int)<d.jobs.length:=by omega
    have e0:wr.cell? ⟨b,off+k*11,none⟩=some (.bool jw):=hc 0 _ rfl;have f0:wr.cell? ⟨b2,off2+k*11,none⟩=some (.bool jw):=hc2 0 _ rfl;have e1:wr.cell? ⟨b,off+k*11+1,none⟩=some (.int .i64 js):=hc 1 _ rfl;have f1:wr.cell? ⟨b2,off2+k*11+1,none⟩=some (.int .i64 js):=hc2 1 _ rfl;have e2:wr.cell? ⟨b,off+k*11+2,none⟩=some (.int .i64 jf):=hc 2 _ rfl;have f2:wr.cell? ⟨b2,off2+k*11+2,none⟩=some (.int .i64 jf):=hc2 2 _ rfl;have e3:wr.cell? ⟨b,off+k*11+3,none⟩=some (.int .u64 x0):=hc 3 _ rfl;have f3:wr.cell? ⟨b2,off2+k*11+3,none⟩=some (.int .u64 x0):=hc2 3 _ rfl;have e4:wr.cell? ⟨b,off+k*11+4,none⟩=some (.int .u64 x1):=hc 4 _ rfl;have f4:wr.cell? ⟨b2,off2+k*11+4,none⟩=some (.int .u64 x1):=hc2 4 _ rfl;have e5:wr.cell? ⟨b,off+k*11+5,none⟩=some (.int .u64 x2):=hc 5 _ rfl;have f5:wr.cell? ⟨b2,off2+k*11+5,none⟩=some (.int .u64 x2):=hc2 5 _ rfl;have e6:wr.cell? ⟨b,off+k*11+6,none⟩=some (.int .u64 x3):=hc 6 _ rfl;have f6:wr.cell? ⟨b2,off2+k*11+6,none⟩=some (.int .u64 x3):=hc2 6 _ rfl;have e7:wr.cell? ⟨b,off+k*11+7,none⟩=some (.int .u64 x4):=hc 7 _ rfl;have f7:wr.cell? ⟨b2,off2+k*11+7,none⟩=some (.int .u64 x4):=hc2 7 _ rfl;have e8:wr.cell? ⟨b,off+k*11+8,none⟩=some (.int .u64 x5):=hc 8 _ rfl;have f8:wr.cell? ⟨b2,off2+k*11+8,none⟩=some (.int .u64 x5):=hc2 8 _ rfl;have e9:wr.cell? ⟨b,off+k*11+9,none⟩=some (.int .u64 x6):=hc 9 _ rfl;have f9:wr.cell? ⟨b2,off2+k*11+9,none⟩=some (.int .u64 x6):=hc2 9 _ rfl;have e10:wr.cell? ⟨b,off+k*11+10,none⟩=some (.int .u64 x7):=hc 10 _ rfl;have f10:wr.cell? ⟨b2,off2+k*11+10,none⟩=some (.int .u64 x7):=hc2 10 _ rfl;clear hc hc2
    have heq:Hid (∀ W,(Op.equalIn 9999 38 (.agg (zkk x0 x1 x2 x3 x4 x5 x6 x7).toArray) (.agg (zkk x0 x1 x2 x3 x4 x5 x6 x7).toArray)).run Tryz.prog W=.ok true W):=fun W=>(eqIn_ct W ⟨x0,x1,x2,x3,x4,x5,x6,x7⟩ ⟨x0,x1,x2,x3,x4,x5,x6,x7⟩).trans (by rw[decide_eq_true rfl])
    go_wp2_with fail;refine wp_region_chain [.is ?fsjb0,.is ?fsjb1,.is ?fsjb2,.is ?fsjb3,.is ?fsjb4,.is ?fsjb5,.is ?fsjb6,.is ?fsjb7,.is ?fsjb8,.is ?fsjb9,.is ?fsjb10] (by kernel_rfl) (by kernel_rfl) (by kernel_rfl) (lasts_is (lasts_is (lasts_is (lasts_is (lasts_is (lasts_is (lasts_is (lasts_is (lasts_is (lasts_is (lasts_is lasts_nil))))))))))) (fun W0 hb0 hz0 => ?_)
    rotate_left 11
    replace p1:=cell_keep hb0 p1 zX2;replace q1:=cell_keep hb0 q1 zY2;replace e0:=cell_keep hb0 e0 hbl;replace e1:=cell_keep hb0 e1 hbl;replace e2:=cell_keep hb0 e2 hbl;replace e3:=cell_keep hb0 e3 hbl;replace e4:=cell_keep hb0 e4 hbl;replace e5:=cell_keep hb0 e5 hbl;replace e6:=cell_keep hb0 e6 hbl;replace e7:=cell_keep hb0 e7 hbl;replace e8:=cell_keep hb0 e8 hbl;replace e9:=cell_keep hb0 e9 hbl;replace e10:=cell_keep hb0 e10 hbl;replace f0:=cell_keep hb0 f0 hbl2;replace f1:=cell_keep hb0 f1 hbl2;replace f2:=cell_keep hb0 f2 hbl2;replace f3:=cell_keep hb0 f3 hbl2;replace f4:=cell_keep hb0 f4 hbl2;replace f5:=cell_keep hb0 f5 hbl2;replace f6:=cell_keep hb0 f6 hbl2;replace f7:=cell_keep hb0 f7 hbl2;replace f8:=cell_keep hb0 f8 hbl2;replace f9:=cell_keep hb0 f9 hbl2;replace f10:=cell_keep hb0 f10 hbl2;replace hbl:=Nat.lt_of_lt_of_le hbl hb0.size;replace hbl2:=Nat.lt_of_lt_of_le hbl2 hb0.size;replace zX2:=Nat.lt_of_lt_of_le zX2 hb0.size;replace zY2:=Nat.lt_of_lt_of_le zY2 hb0.size;refine zot ?_;refine zoT (fun w hbw hd => ?_) ?_
    ·have r0:=cell_keep hbw p1 zX2
     exact zgs
    refine zot ?_;refine zot ?_;refine zoT (fun w hbw hd => ?_) ?_
    ·have r0:=cell_keep hbw e0 hbl
     have r1:=cell_keep hbw e1 hbl;have r2:=cell_keep hbw e2 hbl;have r3:=cell_keep hbw e3 hbl;have r4:=cell_keep hbw e4 hbl;have r5:=cell_keep hbw e5 hbl;have r6:=cell_keep hbw e6 hbl;have r7:=cell_keep hbw e7 hbl;have r8:=cell_keep hbw e8 hbl;have r9:=cell_keep hbw e9 hbl;have r10:=cell_keep hbw e10 hbl;exact zgs
    refine zot ?_;refine zoT (fun w hbw hd => ?_) ?_
    ·have r0:=cell_keep hbw q1 zY2
     exact zgs
    refine zot ?_;refine zot ?_;refine zoT (fun w hbw hd => ?_) ?_
    ·have r0:=cell_keep hbw f0 hbl2
     have r1:=cell_keep hbw f1 hbl2;have r2:=cell_keep hbw f2 hbl2;have r3:=cell_keep hbw f3 hbl2;have r4:=cell_keep hbw f4 hbl2;have r5:=cell_keep hbw f5 hbl2;have r6:=cell_keep hbw f6 hbl2;have r7:=cell_keep hbw f7 hbl2;have r8:=cell_keep hbw f8 hbl2;have r9:=cell_keep hbw f9 hbl2;have r10:=cell_keep hbw f10 hbl2;exact zgs
    refine zoT (fun w hbw hd => ?_) ?_
    ·have hq:=heq.out w
     exact zgs
    refine chain_end (fun wz hbz hd => ?_);go_wp2_with fail;have bR:Below wr0.heap.size wr0 wz:=hbw.trans ((hb0.trans (hbz.mono hb0.size)).mono hbw.size)
    go_roundw
    case rel=>exact⟨k+1,by omega,by go_num,bR⟩
    case measure=>simp[intOf];omega
   have i1:¬ ((k:Int)<d.jobs.length):=by omega
   go_wp2_with fail;go_ret;exact⟨rfl,BX.trans ((hbw0.trans (hbw.mono hbw0.size)).mono BX.size)⟩
theorem sameSwap_refl(L M:Lay)(s:Swp)(w:World)(ha:SwR w L s)(hb:SwR w M s)(hf:Few s) :
  Calls Tryz.prog 21 #[swV L s,swV M s] w fun e w'=>e=.returned (.bool true)∧Below w.heap.size w w':=by
 obtain⟨a0,c0,a1,c1,a2,c2,a3,c3,a4,c4,a5,c5,a6,c6,a7,c7⟩:=L;obtain⟨b0,k0,b1,k1,b2,k2,b3,k3,b4,k4,b5,k5,b6,k6,b7,k7⟩:=M;have hl2:=hf.f2;have hl3:=hf.f3;have HA:=Lib.hid ha;have HB:=Lib.hid hb;have HF:=Lib.hid hf;clear ha hb hf;unfold swV swC;dsimp only;obtain⟨X,hX⟩:∃ X,(w.alloc (.cells (zkx s a0 c0 a1 c1 a2 c2 a3 c3 a4 c4 a5 c5 a6 c6 a7 c7).toArray 35)).alloc (.cells (zkx s b0 k0 b1 k1 b2 k2 b3 k3 b4 k4 b5 k5 b6 k6 b7 k7).toArray 35)=X:=⟨_,rfl⟩;have kX:=za1 hX;have kY:=za2 hX;have BX:=zabb hX;have zX:=kX.lt;have zY:=kY.lt;obtain⟨p0,p1,p2,p3,p4,p5,p6,p7,p8,p9,p10⟩:=zc11 kX;obtain⟨q0,q1,q2,q3,q4,q5,q6,q7,q8,q9,q10⟩:=zc11 kY;have hq0:(s.cap != s.cap)=false:=by simp
 have hq1:((s.wr.length:Int) != s.wr.length)=false:=by simp
 have hq2:((s.rd.length:Int) != s.rd.length)=false:=by simp
 go_enter Tryz.func21,Tryz.ntmps21
 go_wp2_with fail;(try rw[hX]);clear hX;have hC:=sameSlots_refl a0 a1 b0 b1 c0 c1 k0 k1 s.sl X (HA.out.ext BX).r0 (HA.out.ext BX).r1 (HB.out.ext BX).r0 (HB.out.ext BX).r1 (by have:=HF.out.f0;omega) (by have:=HF.out.f1;omega);refine hC.mono ?_;clear hC;rintro e1 w1 ⟨rfl,hb1⟩;have B1:=BX.trans (hb1.mono BX.size);replace kX:=kX.below_ hb1 kX.lt;replace kY:=kY.below_ hb1 kY.lt;clear hb1 p0 q0 p1 q1 p2 q2 p3 q3 p4 q4 p5 q5 p6 q6 p7 q7 p8 q8 p9 q9 p10 q10 zX zY;have zX:=kX.lt;have zY:=kY.lt;obtain⟨p0,p1,p2,p3,p4,p5,p6,p7,p8,p9,p10⟩:=zc11 kX;obtain⟨q0,q1,q2,q3,q4,q5,q6,q7,q8,q9,q10⟩:=zc11 kY;go_wp2_with fail;have hC:=SameInts_any a4 b4 c4 k4 s.desc s.desc w1 (HA.out.ext B1).r4.sl (HB.out.ext B1).r4.sl (by have:=HF.out.f4;omega) (by have:=HF.out.f4;omega);rw[decide_eq_true rfl] at hC;refine hC.mono ?_;clear hC;rintro e2 w2 ⟨rfl,hb2⟩;have B2:=B1.trans (hb2.mono B1.size);replace kX:=kX.below_ hb2 kX.lt;replace kY:=kY.below_ hb2 kY.lt;clear hb2 p0 q0 p1 q1 p2 q2 p3 q3 p4 q4 p5 q5 p6 q6 p7 q7 p8 q8 p9 q9 p10 q10 zX zY;have zX:=kX.lt;have zY:=kY.lt;obtain⟨p0,p1,p2,p3,p4,p5,p6,p7,p8,p9,p10⟩:=zc11 kX;obtain⟨q0,q1,q2,q3,q4,q5,q6,q7,q8,q9,q10⟩:=zc11 kY;go_wp2_with fail;have hC:=samePool_refl a7 b7 c7 k7 s.po w2 (HA.out.ext B2).r7 (HB.out.ext B2).r7 HF.out.f7;refine hC.mono ?_;clear hC;rintro e3 w3 ⟨rfl,hb3⟩;have B3:=B2.trans (hb3.mono B2.size);replace kX:=kX.below_ hb3 kX.lt;replace kY:=kY.below_ hb3 kY.lt;clear hb3 p0 q0 p1 q1 p2 q2 p3 q3 p4 q4 p5 q5 p6 q6 p7 q7 p8 q8 p9 q9 p10 q10 zX zY;have zX:=kX.lt;have zY:=kY.lt;obtain⟨p0,p1,p2,p3,p4,p5,p6,p7,p8,p9,p10⟩:=zc11 kX;obtain⟨q0,q1,q2,q3,q4,q5,q6,q7,q8,q9,q10⟩:=zc11 kY;go_wp2_with fail;have hC:=sameDisk_refl a5 a6 b5 b6 c5 c6 k5 k6 s.dk w3 (HA.out.ext B3).r5 (HA.out.ext B3).r6 (HB.out.ext B3).r5 (HB.out.ext B3).r6 HF.out.f5 HF.out.f6;refine hC.mono ?_;clear hC;rintro e4 w4 ⟨rfl,hb4⟩;have B4:=B3.trans (hb4.mono B3.size);replace kX:=kX.below_ hb4 kX.lt;replace kY:=kY.below_ hb4 kY.lt;clear hb4 p0 q0 p1 q1 p2 q2 p3 q3 p4 q4 p5 q5 p6 q6 p7 q7 p8 q8 p9 q9 p10 q10 zX zY;have HV:Hid (SR wrE w4 a2 s.wr):=(HA.out.ext B4).r2;have HV2:Hid (SR wrE w4 b2 s.wr):=(HB.out.ext B4).r2;go_wp2_with fail
 go_loopw [5] (fun i wr=>∃ k:Nat,k≤s.wr.length∧i=.int .i64 k∧Below w4.heap.size w4 wr) (fun i _=>s.wr.length - (intOf i).toNat)
 case atStart=>exact⟨0,by omega,rfl,Below.refl _ _⟩
 case round=>
  obtain⟨k,hk,rfl,hbw⟩:=hrel;have zX:=kX.lt;have zY:=kY.lt;have zw:=hbw.size;have p3:=cell_keep hbw (show w4.cell? ⟨w.heap.size,3,none⟩=some (.slice a2 s.wr.length c2) by simpa using kX.cell_ 3) zX;have q3:=cell_keep hbw (show w4.cell? ⟨w.heap.size+1,3,none⟩=some (.slice b2 s.wr.length k2) by simpa using kY.cell_ 3) zY;have zX2:w.heap.size<wr.heap.size:=Nat.lt_of_lt_of_le zX zw;have zY2:w.heap.size+1<wr.heap.size:=Nat.lt_of_lt_of_le zY zw
  by_cases hlt:k<s.wr.length
  ·obtain⟨b,off,y,hA,hbl,hy,hc⟩:=(HV.out.ext hbw).at_ hlt
   obtain⟨b2,off2,y2,hA2,hbl2,hy2,hc2⟩:=(HV2.out.ext hbw).at_ hlt;obtain rfl:y=y2:=Option.some.inj (hy.symm.trans hy2);(try dsimp only at hA hA2);subst hA hA2;obtain⟨s0,s1,s2⟩:=y;clear hy hy2;have i1:(k:Int)<s.wr.length:=by omega
   have e0:wr.cell? ⟨b,off+k*3,none⟩=some (.int .i64 s0):=hc 0 _ rfl;have f0:wr.cell? ⟨b2,off2+k*3,none⟩=some (.int .i64 s0):=hc2 0 _ rfl;have e1:wr.cell? ⟨b,off+k*3+1,none⟩=some (.int .i64 s1):=hc 1 _ rfl;have f1:wr.cell? ⟨b2,off2+k*3+1,none⟩=some (.int .i64 s1):=hc2 1 _ rfl;have e2:wr.cell? ⟨b,off+k*3+2,none⟩=some (.int .i64 s2):=hc 2 _ rfl;have f2:wr.cell? ⟨b2,off2+k*3+2,none⟩=some (.int .i64 s2):=hc2 2 _ rfl;clear hc hc2
   have heq:Hid (∀ W,(Op.equalIn 10000 106 (.agg #[.int .i64 s0,.int .i64 s1,.int .i64 s2]) (.agg #[.int .i64 s0,.int .i64 s1,.int .i64 s2])).run Tryz.prog W=.ok true W):=fun W=>(eq_wr W ⟨s0,s1,s2⟩ ⟨s0,s1,s2⟩).trans (by rw[decide_eq_true rfl])
   go_wp2_with fail;refine wp_region_chain [.is ?fswr0,.is ?fswr1,.is ?fswr2,.is ?fswr3,.is ?fswr4,.is ?fswr5,.is ?fswr6,.is ?fswr7,.is ?fswr8,.is ?fswr9,.is ?fswr10] (by kernel_rfl) (by kernel_rfl) (by kernel_rfl) (lasts_is (lasts_is (lasts_is (lasts_is (lasts_is (lasts_is (lasts_is (lasts_is (lasts_is (lasts_is (lasts_is lasts_nil))))))))))) (fun W0 hb0 hz0 => ?_)
   rotate_left 11
   replace p3:=cell_keep hb0 p3 zX2;replace q3:=cell_keep hb0 q3 zY2;replace e0:=cell_keep hb0 e0 hbl;replace e1:=cell_keep hb0 e1 hbl;replace e2:=cell_keep hb0 e2 hbl;replace f0:=cell_keep hb0 f0 hbl2;replace f1:=cell_keep hb0 f1 hbl2;replace f2:=cell_keep hb0 f2 hbl2;replace hbl:=Nat.lt_of_lt_of_le hbl hb0.size;replace hbl2:=Nat.lt_of_lt_of_le hbl2 hb0.size;replace zX2:=Nat.lt_of_lt_of_le zX2 hb0.size;replace zY2:=Nat.lt_of_lt_of_le zY2 hb0.size;refine zot ?_;refine zoT (fun w hbw hd => ?_) ?_
   ·have r0:=cell_keep hbw p3 zX2
    exact zgs
   refine zot ?_;refine zot ?_;refine zoT (fun w hbw hd => ?_) ?_
   ·have r0:=cell_keep hbw e0 hbl
    have r1:=cell_keep hbw e1 hbl;have r2:=cell_keep hbw e2 hbl;exact zgs
   refine zot ?_;refine zoT (fun w hbw hd => ?_) ?_
   ·have r0:=cell_keep hbw q3 zY2
    exact zgs
   refine zot ?_;refine zot ?_;refine zoT (fun w hbw hd => ?_) ?_
   ·have r0:=cell_keep hbw f0 hbl2
    have r1:=cell_keep hbw f1 hbl2;have r2:=cell_keep hbw f2 hbl2;exact zgs
   refine zoT (fun w hbw hd => ?_) ?_
   ·have hq:=heq.out w
    exact zgs
   refine chain_end (fun wz hbz hd => ?_);go_wp2_with fail;have bR:Below w4.heap.size w4 wz:=hbw.trans ((hb0.trans (hbz.mono hb0.size)).mono hbw.size)
   go_roundw
   case rel=>exact⟨k+1,by omega,by go_num,bR⟩
   case measure=>simp[intOf];omega
  have i1:¬ ((k:Int)<s.wr.length):=by omega
  go_wp2_with fail;obtain⟨wr0,hwr0⟩:∃ V,V=wr:=⟨_,rfl⟩;subst hwr0;have hbw0:=hbw;clear hbw;have kX0:=kX.below_ hbw0 kX.lt;have kY0:=kY.below_ hbw0 kY.lt;have HR:Hid (SR rdE wr0 a3 s.rd):=(HA.out.ext (B4.trans (hbw0.mono B4.size))).r3;have HR2:Hid (SR rdE wr0 b3 s.rd):=(HB.out.ext (B4.trans (hbw0.mono B4.size))).r3;clear i1 p3 q3 zX zY
  go_loopw [6] (fun i wr=>∃ k:Nat,k≤s.rd.length∧i=.int .i64 k∧Below wr0.heap.size wr0 wr) (fun i _=>s.rd.length - (intOf i).toNat)
  case atStart=>exact⟨0,by omega,rfl,Below.refl _ _⟩
  case round=>
   obtain⟨k,hk,rfl,hbw⟩:=hrel;have zX:=kX0.lt;have zY:=kY0.lt;have zw:=hbw.size;have p4:=cell_keep hbw (show wr0.cell? ⟨w.heap.size,4,none⟩=some (.slice a3 s.rd.length c3) by simpa using kX0.cell_ 4) zX;have q4:=cell_keep hbw (show wr0.cell? ⟨w.heap.size+1,4,none⟩=some (.slice b3 s.rd.length k3) by simpa using kY0.cell_ 4) zY;have zX2:w.heap.size<wr.heap.size:=Nat.lt_of_lt_of_le zX zw;have zY2:w.heap.size+1<wr.heap.size:=Nat.lt_of_lt_of_le zY zw
   by_cases hlt:k<s.rd.length
   ·obtain⟨b,off,y,hA,hbl,hy,hc⟩:=(HR.out.ext hbw).at_ hlt
    obtain⟨b2,off2,y2,hA2,hbl2,hy2,hc2⟩:=(HR2.out.ext hbw).at_ hlt;obtain rfl:y=y2:=Option.some.inj (hy.symm.trans hy2);(try dsimp only at hA hA2);subst hA hA2;obtain⟨s0,s1,s2⟩:=y;clear hy hy2;have i1:(k:Int)<s.rd.length:=by omega
    have e0:wr.cell? ⟨b,off+k*3,none⟩=some (.int .i64 s0):=hc 0 _ rfl;have f0:wr.cell? ⟨b2,off2+k*3,none⟩=some (.int .i64 s0):=hc2 0 _ rfl;have e1:wr.cell? ⟨b,off+k*3+1,none⟩=some (.int .i64 s1):=hc 1 _ rfl;have f1:wr.cell? ⟨b2,off2+k*3+1,none⟩=some (.int .i64 s1):=hc2 1 _ rfl;have e2:wr.cell? ⟨b,off+k*3+2,none⟩=some (.int .i64 s2):=hc 2 _ rfl;have f2:wr.cell? ⟨b2,off2+k*3+2,none⟩=some (.int .i64 s2):=hc2 2 _ rfl;clear hc hc2
    have heq:Hid (∀ W,(Op.equalIn 10000 100 (.agg #[.int .i64 s0,.int .i64 s1,.int .i64 s2]) (.agg #[.int .i64 s0,.int .i64 s1,.int .i64 s2])).run Tryz.prog W=.ok true W):=fun W=>(eq_rd W ⟨s0,s1,s2⟩ ⟨s0,s1,s2⟩).trans (by rw[decide_eq_true rfl])
    go_wp2_with fail;refine wp_region_chain [.is ?fsrd0,.is ?fsrd1,.is ?fsrd2,.is ?fsrd3,.is ?fsrd4,.is ?fsrd5,.is ?fsrd6,.is ?fsrd7,.is ?fsrd8,.is ?fsrd9,.is ?fsrd10] (by kernel_rfl) (by kernel_rfl) (by kernel_rfl) (lasts_is (lasts_is (lasts_is (lasts_is (lasts_is (lasts_is (lasts_is (lasts_is (lasts_is (lasts_is (lasts_is lasts_nil))))))))))) (fun W0 hb0 hz0 => ?_)
    rotate_left 11
    replace p4:=cell_keep hb0 p4 zX2;replace q4:=cell_keep hb0 q4 zY2;replace e0:=cell_keep hb0 e0 hbl;replace e1:=cell_keep hb0 e1 hbl;replace e2:=cell_keep hb0 e2 hbl;replace f0:=cell_keep hb0 f0 hbl2;replace f1:=cell_keep hb0 f1 hbl2;replace f2:=cell_keep hb0 f2 hbl2;replace hbl:=Nat.lt_of_lt_of_le hbl hb0.size;replace hbl2:=Nat.lt_of_lt_of_le hbl2 hb0.size;replace zX2:=Nat.lt_of_lt_of_le zX2 hb0.size;replace zY2:=Nat.lt_of_lt_of_le zY2 hb0.size;refine zot ?_;refine zoT (fun w hbw hd => ?_) ?_
    ·have r0:=cell_keep hbw p4 zX2
     exact zgs
    refine zot ?_;refine zot ?_;refine zoT (fun w hbw hd => ?_) ?_
    ·have r0:=cell_keep hbw e0 hbl
     have r1:=cell_keep hbw e1 hbl;have r2:=cell_keep hbw e2 hbl;exact zgs
    refine zot ?_;refine zoT (fun w hbw hd => ?_) ?_
    ·have r0:=cell_keep hbw q4 zY2
     exact zgs
    refine zot ?_;refine zot ?_;refine zoT (fun w hbw hd => ?_) ?_
    ·have r0:=cell_keep hbw f0 hbl2
     have r1:=cell_keep hbw f1 hbl2;have r2:=cell_keep hbw f2 hbl2;exact zgs
    refine zoT (fun w hbw hd => ?_) ?_
    ·have hq:=heq.out w
     exact zgs
    refine chain_end (fun wz hbz hd => ?_);go_wp2_with fail;have bR:Below wr0.heap.size wr0 wz:=hbw.trans ((hb0.trans (hbz.mono hb0.size)).mono hbw.size)
    go_roundw
    case rel=>exact⟨k+1,by omega,by go_num,bR⟩
    case measure=>simp[intOf];omega
   have i1:¬ ((k:Int)<s.rd.length):=by omega
   go_wp2_with fail;go_ret;exact⟨rfl,B4.trans ((hbw0.trans (hbw.mono hbw0.size)).mono B4.size)⟩
end Go.Proofs.YthijbipidbjpfaaGreatDoor
