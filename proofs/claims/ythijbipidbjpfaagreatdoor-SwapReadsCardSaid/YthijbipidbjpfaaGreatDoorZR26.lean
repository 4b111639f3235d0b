import Derived.Test.YthijbipidbjpfaaGreatDoorZR23
import Derived.Test.YthijbipidbjpfaaGreatDoorZR00
import Derived.Test.YthijbipidbjpfaaGreatDoorZR04
import Derived.Test.YthijbipidbjpfaaGreatDoorZR14
import Derived.Test.YthijbipidbjpfaaGreatDoorZR06
import Derived.Test.YthijbipidbjpfaaGreatDoorZR03
import Derived.Test.YthijbipidbjpfaaGreatDoorZR13
set_option linter.unusedSimpArgs false
set_option linter.unusedVariables false
set_option maxRecDepth 100000
set_option maxHeartbeats 8000000
namespace Go.Proofs.YthijbipidbjpfaaGreatDoor
open Go.RowKit Go.Maps
def SwP1 (R:Swp) (w:World) (e:Ending) (w':World):Prop:=∃ L,e = .returned (swV L R)∧SwO w' w.heap.size L R∧Below w.heap.size w w'
theorem rwOwn_any (L:Lay) (s:Swp) (w:World) (h:SwR w L s) (hf:Few s):Calls Tryz.prog 54 #[swV L s] w (SwP1 s w):=by
 obtain ⟨a0,c0,a1,c1,a2,c2,a3,c3,a4,c4,a5,c5,a6,c6,a7,c7⟩:=L;have HS:=Lib.hid h;obtain ⟨f0,f1,f2,f3,f4,f5,f6,f7⟩:=hf;clear h;unfold swV swC;obtain ⟨X,hX⟩:∃ X,(w.alloc (.cells (zkx s a0 c0 a1 c1 a2 c2 a3 c3 a4 c4 a5 c5 a6 c6 a7 c7).toArray 35)).alloc (.cells zkz.toArray 35) = X:=⟨_,rfl⟩;have kX:=za1 hX;have kR:=za2 hX;have BX:Below w.heap.size w X:=by rw [← hX];exact zbl
 go_enter Tryz.func54,Tryz.ntmps54
 go_wp2_with fail;(try rw [hX]);clear hX;refine zrg [2,0,0,1,2,2,0,0,1,2,0,0,3] [[],[],[],[],[],[],[],[],[],[],[4,9],[],[]] [.has (LitE),.is ?_,.is ?_,.kn ?_,.has (ClnF intE s.sl.refs s.sl.refs.length),.has (LitE),.is ?_,.is ?_,.kn ?_,.has (ClnF boolE s.sl.busy s.sl.busy.length),.fn [4,9] (fun l => .agg #[l.getD 0 undef,l.getD 1 undef]),.is ?_,.late] [12] (lts_has (LitE.lasts) (lts_is (lts_is (lts_kn (lts_has (ClnF.lasts intE s.sl.refs _) (lts_has (LitE.lasts) (lts_is (lts_is (lts_kn (lts_has (ClnF.lasts boolE s.sl.busy _) (lts_fn (lts_is (lts_late lts_nil))))))))))))) (fun W0 hb0 hz0 => ?_)
 rotate_left 7
 have kW:=kX.below_ hb0 kX.lt;have zW:=kW.lt;have kR0:=kR.below_ hb0 kR.lt;have H0:=Lib.hid ((HS.out.r0.ext BX).ext hb0);have H1:=Lib.hid ((HS.out.r1.ext BX).ext hb0);obtain ⟨-,p1,p2,-⟩:=zc11 kW;refine zqh (fun w hbw hd K Q' hK => ?_) (fun vow0 => ?_)
 ·clear hd
  go_simp;exact hK.out (.slice (some ⟨w.heap.size,0,none⟩) 0 0) _ _ zpt zbm ⟨_,rfl⟩
 refine zqp ?_;refine zqp ?_;refine zqT (fun w hbw hd => ?_) ?_
 ·have q1:=cell_keep hbw p1 zW
  exact zgs
 refine zqh (fun w hbw hd K Q' hK => ?_) (fun vow4 => ?_)
 ·obtain ⟨_,_,g,rfl⟩:∃ lo hi,LitE vow0 lo hi w:=hd 0 _ _ (by kernel_rfl) rfl rfl
  clear hd;refine step_appF intE rfl (.tmp 3) (.tmp 6) _ rfl rfl w g a0 c0 s.sl.refs.length s.sl.refs rfl (H0.out.ext hbw) (by omega) rfl rfl ?_;intro A' c' y ho hy;exact hK.out (.slice A' s.sl.refs.length c') _ _ zpt zbm ⟨A',c',rfl,ho⟩
 refine zqh (fun w hbw hd K Q' hK => ?_) (fun vow5 => ?_)
 ·clear hd
  go_simp;exact hK.out (.slice (some ⟨w.heap.size,0,none⟩) 0 0) _ _ zpt zbm ⟨_,rfl⟩
 refine zqp ?_;refine zqp ?_;refine zqT (fun w hbw hd => ?_) ?_
 ·have q1:=cell_keep hbw p2 zW
  exact zgs
 refine zqh (fun w hbw hd K Q' hK => ?_) (fun vow9 => ?_)
 ·obtain ⟨_,_,g,rfl⟩:∃ lo hi,LitE vow5 lo hi w:=hd 5 _ _ (by kernel_rfl) rfl rfl
  clear hd;refine step_appF boolE rfl (.tmp 8) (.tmp 11) _ rfl rfl w g a1 c1 s.sl.busy.length s.sl.busy rfl (H1.out.ext hbw) (by omega) rfl rfl ?_;intro A' c' y ho hy;exact hK.out (.slice A' s.sl.busy.length c') _ _ zpt zbm ⟨A',c',rfl,ho⟩
 refine zqF (.agg #[vow4,vow9]) (fun w0 hd w => ?_) ?_
 ·obtain ⟨_,_,A',d',rfl,_⟩:∃ lo hi,ClnF intE s.sl.refs s.sl.refs.length vow4 lo hi w0:=hd 4 _ _ (by kernel_rfl) rfl rfl
  obtain ⟨_,_,B',d',rfl,_⟩:∃ lo hi,ClnF boolE s.sl.busy s.sl.busy.length vow9 lo hi w0:=hd 9 _ _ (by kernel_rfl) rfl rfl;exact zsr
 refine zqp ?_;refine zql ?_;refine chn_end (fun wz lo hi hbz hd hR => ?_);obtain ⟨b0,d0,rfl,o0⟩:ClnF intE s.sl.refs s.sl.refs.length vow4 (lo 4) (hi 4) wz:=hd 4 _ _ rfl rfl;obtain ⟨b1,d1,rfl,o1⟩:ClnF boolE s.sl.busy s.sl.busy.length vow9 (lo 9) (hi 9) wz:=hd 9 _ _ rfl rfl;have r4:=(hR.2 4 _ rfl).1;have r9:=(hR.2 9 _ rfl).1;have zX1:w.heap.size + 1 < W0.heap.size:=kR0.lt;have BZ:Below w.heap.size w wz:=BX.trans ((hb0.trans (hbz.mono hb0.size)).mono BX.size);have kZ:=kW.below_ hbz zW;have kRZ:=kR0.below_ hbz zX1;have zZ:=kZ.lt;have zzz:=hbz.size;clear hd hR p1 p2;obtain ⟨-,y1,y2,-⟩:=zc11 kZ;obtain ⟨-,yf1,yf2,-⟩:=zf kZ;refine late_one (by simp only [zy5,zy6,zy7];rfl) (fun K Q' hK => ?_);go_simp;refine hK.out _ ?_;clear hK K Q';obtain ⟨X2,hX2⟩:∃ V,setN wz w.heap.size 1 [.slice b0 s.sl.refs.length d0,.slice b1 s.sl.busy.length d1] = V:=⟨_,rfl⟩;have hX2n:World.setCell (World.setCell wz ⟨w.heap.size,1,none⟩ (.slice b0 s.sl.refs.length d0)) ⟨w.heap.size,2,none⟩ (.slice b1 s.sl.busy.length d1) = X2:=hX2;have kS2:Blk X2 w.heap.size 35 (zkx s b0 d0 b1 d1 a2 c2 a3 c3 a4 c4 a5 c5 a6 c6 a7 c7).toArray:=by rw [← hX2];exact (Blk.set_ (Blk.set_ kZ 1 _) 2 _)
 have kR2:Blk X2 (w.heap.size + 1) 35 zkz.toArray:=by rw [← hX2];exact kRZ.kept (grown_setN _ _ _ _) (by simp)
 have BX2:Below w.heap.size w X2:=by rw [← hX2];exact below_setN BZ (Nat.le_refl _) _
 replace o0:OwnE intE X2 (w.heap.size + 2) b0 d0 s.sl.refs:=by rw [← hX2];exact (o0.base_ (by omega)).farN (by omega) _
 replace o1:OwnE boolE X2 (w.heap.size + 2) b1 d1 s.sl.busy:=by rw [← hX2];exact (o1.base_ (by omega)).farN (by omega) _
 have zz2:w.heap.size + 1 < X2.heap.size:=kR2.lt;rw [hX2n];clear hX2n hX2 y1 y2 yf1 yf2 kZ kRZ;have zq2:=kS2.lt;obtain ⟨-,-,-,q2_3,-⟩:=zc11 kS2
 go_upto_region 3 with (at_builtin;refine wpList_appR wrE rfl (.tmp 15) (.tmp 17) _ rfl rfl _ X2.heap.size (by simp) (some ⟨X2.heap.size,0,none⟩) 0 0 [] rfl (.inl ⟨rfl,SR.nil⟩) a2 c2 s.wr.length s.wr rfl ((HS.out.r2.ext BX2).ext ((Below.refl _ _).alloc (Nat.le_refl _) _)) (by simp;omega) rfl rfl ?_;intro b2 d2 w2 hc2 hb2 hm2;have kT2:=(kS2.alloc_ _).below_ hb2 zq2;have kU2:=(kR2.alloc_ _).below_ hb2 zz2;have zt2:=kT2.lt;have t2_3:w2.cell? ⟨w.heap.size,3,none⟩ = some (.slice a2 s.wr.length c2):=(by simpa using kT2.cell_ 3);have tf2_3:=kT2.frozen_ 3)
 have hbb2:Below X2.heap.size X2 w2:=Below.trans ((Below.refl _ _).alloc (Nat.le_refl _) _) hb2;have o2:OwnE wrE w2 X2.heap.size b2 d2 s.wr:=⟨hc2,hm2 (.inl rfl)⟩;obtain ⟨X3,hX3⟩:∃ V,w2.setCell ⟨w.heap.size,3,none⟩ (.slice b2 s.wr.length d2) = V:=⟨_,rfl⟩;have kS3:Blk X3 w.heap.size 35 (zkx s b0 d0 b1 d1 b2 d2 a3 c3 a4 c4 a5 c5 a6 c6 a7 c7).toArray:=by rw [← hX3];exact kT2.set_ 3 _
 have kR3:Blk X3 (w.heap.size + 1) 35 zkz.toArray:=by rw [← hX3];exact kU2.far_ (by simp) _
 have BX3:Below w.heap.size w X3:=by rw [← hX3];exact (BX2.trans (hbb2.mono BX2.size)).setCell (p:=⟨w.heap.size,3,none⟩) (Nat.le_refl _) _
 have sz3:X2.heap.size ≤ X3.heap.size:=by rw [← hX3];simpa [World.setCell] using hbb2.size
 have zz3:w.heap.size + 1 < X3.heap.size:=kR3.lt;replace o2:OwnE wrE X3 X2.heap.size b2 d2 s.wr:=by rw [← hX3];exact o2.far zq2 _
 replace o0:OwnE intE X3 (w.heap.size + 2) b0 d0 s.sl.refs:=by rw [← hX3];exact (o0.ext hbb2).far (by show w.heap.size < w.heap.size + 2;omega) _
 replace o1:OwnE boolE X3 (w.heap.size + 2) b1 d1 s.sl.busy:=by rw [← hX3];exact (o1.ext hbb2).far (by show w.heap.size < w.heap.size + 2;omega) _
 have u0:OwnE intE X3 (w.heap.size + 2) b0 d0 s.sl.refs:=o0;rw [hX3];clear hX3 hb2 hbb2 hc2 hm2 kT2 kU2 q2_3 t2_3 tf2_3 kS2 kR2;have zq3:=kS3.lt;obtain ⟨-,-,-,-,q3_4,-⟩:=zc11 kS3
 go_upto_region 4 with (at_builtin;refine wpList_appR rdE rfl (.tmp 20) (.tmp 22) _ rfl rfl _ X3.heap.size (by simp) (some ⟨X3.heap.size,0,none⟩) 0 0 [] rfl (.inl ⟨rfl,SR.nil⟩) a3 c3 s.rd.length s.rd rfl ((HS.out.r3.ext BX3).ext ((Below.refl _ _).alloc (Nat.le_refl _) _)) (by simp;omega) rfl rfl ?_;intro b3 d3 w3 hc3 hb3 hm3;have kT3:=(kS3.alloc_ _).below_ hb3 zq3;have kU3:=(kR3.alloc_ _).below_ hb3 zz3;have zt3:=kT3.lt;have t3_4:w3.cell? ⟨w.heap.size,4,none⟩ = some (.slice a3 s.rd.length c3):=(by simpa using kT3.cell_ 4);have tf3_4:=kT3.frozen_ 4)
 have hbb3:Below X3.heap.size X3 w3:=Below.trans ((Below.refl _ _).alloc (Nat.le_refl _) _) hb3;have o3:OwnE rdE w3 X3.heap.size b3 d3 s.rd:=⟨hc3,hm3 (.inl rfl)⟩;obtain ⟨X4,hX4⟩:∃ V,w3.setCell ⟨w.heap.size,4,none⟩ (.slice b3 s.rd.length d3) = V:=⟨_,rfl⟩;have kS4:Blk X4 w.heap.size 35 (zkx s b0 d0 b1 d1 b2 d2 b3 d3 a4 c4 a5 c5 a6 c6 a7 c7).toArray:=by rw [← hX4];exact kT3.set_ 4 _
 have kR4:Blk X4 (w.heap.size + 1) 35 zkz.toArray:=by rw [← hX4];exact kU3.far_ (by simp) _
 have BX4:Below w.heap.size w X4:=by rw [← hX4];exact (BX3.trans (hbb3.mono BX3.size)).setCell (p:=⟨w.heap.size,4,none⟩) (Nat.le_refl _) _
 have sz4:X3.heap.size ≤ X4.heap.size:=by rw [← hX4];simpa [World.setCell] using hbb3.size
 have zz4:w.heap.size + 1 < X4.heap.size:=kR4.lt;replace o3:OwnE rdE X4 X3.heap.size b3 d3 s.rd:=by rw [← hX4];exact o3.far zq3 _
 replace o0:OwnE intE X4 (w.heap.size + 2) b0 d0 s.sl.refs:=by rw [← hX4];exact (o0.ext hbb3).far (by show w.heap.size < w.heap.size + 2;omega) _
 replace o1:OwnE boolE X4 (w.heap.size + 2) b1 d1 s.sl.busy:=by rw [← hX4];exact (o1.ext hbb3).far (by show w.heap.size < w.heap.size + 2;omega) _
 replace o2:OwnE wrE X4 X2.heap.size b2 d2 s.wr:=by rw [← hX4];exact (o2.ext hbb3).far (by exact zq2) _
 have u0w:OwnE intE X4 (w.heap.size + 2) b0 d0 s.sl.refs:=o0;rw [hX4];clear hX4 hb3 hbb3 hc3 hm3 kT3 kU3 q3_4 t3_4 tf3_4 kS3 kR3;have zq4:=kS4.lt;obtain ⟨-,-,-,-,-,q4_5,-⟩:=zc11 kS4
 go_upto_region 5 with (at_builtin;refine wpList_appR intE rfl (.tmp 25) (.tmp 27) _ rfl rfl _ X4.heap.size (by simp) (some ⟨X4.heap.size,0,none⟩) 0 0 [] rfl (.inl ⟨rfl,SR.nil⟩) a4 c4 s.desc.length s.desc rfl ((HS.out.r4.ext BX4).ext ((Below.refl _ _).alloc (Nat.le_refl _) _)) (by simp;omega) rfl rfl ?_;intro b4 d4 w4 hc4 hb4 hm4;have kT4:=(kS4.alloc_ _).below_ hb4 zq4;have kU4:=(kR4.alloc_ _).below_ hb4 zz4;have zt4:=kT4.lt;have t4_5:w4.cell? ⟨w.heap.size,5,none⟩ = some (.slice a4 s.desc.length c4):=(by simpa using kT4.cell_ 5);have tf4_5:=kT4.frozen_ 5)
 have hbb4:Below X4.heap.size X4 w4:=Below.trans ((Below.refl _ _).alloc (Nat.le_refl _) _) hb4;have o4:OwnE intE w4 X4.heap.size b4 d4 s.desc:=⟨hc4,hm4 (.inl rfl)⟩;obtain ⟨X5,hX5⟩:∃ V,w4.setCell ⟨w.heap.size,5,none⟩ (.slice b4 s.desc.length d4) = V:=⟨_,rfl⟩;have kS5:Blk X5 w.heap.size 35 (zkx s b0 d0 b1 d1 b2 d2 b3 d3 b4 d4 a5 c5 a6 c6 a7 c7).toArray:=by rw [← hX5];exact kT4.set_ 5 _
 have kR5:Blk X5 (w.heap.size + 1) 35 zkz.toArray:=by rw [← hX5];exact kU4.far_ (by simp) _
 have BX5:Below w.heap.size w X5:=by rw [← hX5];exact (BX4.trans (hbb4.mono BX4.size)).setCell (p:=⟨w.heap.size,5,none⟩) (Nat.le_refl _) _
 have sz5:X4.heap.size ≤ X5.heap.size:=by rw [← hX5];simpa [World.setCell] using hbb4.size
 have zz5:w.heap.size + 1 < X5.heap.size:=kR5.lt;replace o4:OwnE intE X5 X4.heap.size b4 d4 s.desc:=by rw [← hX5];exact o4.far zq4 _
 replace o0:OwnE intE X5 (w.heap.size + 2) b0 d0 s.sl.refs:=by rw [← hX5];exact (o0.ext hbb4).far (by show w.heap.size < w.heap.size + 2;omega) _
 replace o1:OwnE boolE X5 (w.heap.size + 2) b1 d1 s.sl.busy:=by rw [← hX5];exact (o1.ext hbb4).far (by show w.heap.size < w.heap.size + 2;omega) _
 replace o2:OwnE wrE X5 X2.heap.size b2 d2 s.wr:=by rw [← hX5];exact (o2.ext hbb4).far (by exact zq2) _
 replace o3:OwnE rdE X5 X3.heap.size b3 d3 s.rd:=by rw [← hX5];exact (o3.ext hbb4).far (by exact zq3) _
 have p04:Part b0 d0 b4 d4:=(u0w).part o4 (Nat.le_refl _);have u4:OwnE intE X5 X4.heap.size b4 d4 s.desc:=o4;rw [hX5];clear hX5 hb4 hbb4 hc4 hm4 kT4 kU4 q4_5 t4_5 tf4_5 kS4 kR4;have zq5:=kS5.lt;obtain ⟨-,-,-,-,-,-,q5_6,-⟩:=zc11 kS5
 go_upto_region 6 with (at_builtin;refine wpList_appR ctE rfl (.tmp 30) (.tmp 33) _ rfl rfl _ X5.heap.size (by simp) (some ⟨X5.heap.size,0,none⟩) 0 0 [] rfl (.inl ⟨rfl,SR.nil⟩) a5 c5 s.dk.cells.length s.dk.cells rfl ((HS.out.r5.ext BX5).ext ((Below.refl _ _).alloc (Nat.le_refl _) _)) (by simp;omega) rfl rfl ?_;intro b5 d5 w5 hc5 hb5 hm5;have kT5:=(kS5.alloc_ _).below_ hb5 zq5;have kU5:=(kR5.alloc_ _).below_ hb5 zz5;have zt5:=kT5.lt;have t5_6:w5.cell? ⟨w.heap.size,6,none⟩ = some (.slice a5 s.dk.cells.length c5):=(by simpa using kT5.cell_ 6);have tf5_6:=kT5.frozen_ 6)
 have hbb5:Below X5.heap.size X5 w5:=Below.trans ((Below.refl _ _).alloc (Nat.le_refl _) _) hb5;have o5:OwnE ctE w5 X5.heap.size b5 d5 s.dk.cells:=⟨hc5,hm5 (.inl rfl)⟩;obtain ⟨X6,hX6⟩:∃ V,w5.setCell ⟨w.heap.size,6,none⟩ (.slice b5 s.dk.cells.length d5) = V:=⟨_,rfl⟩;have kS6:Blk X6 w.heap.size 35 (zkx s b0 d0 b1 d1 b2 d2 b3 d3 b4 d4 b5 d5 a6 c6 a7 c7).toArray:=by rw [← hX6];exact kT5.set_ 6 _
 have kR6:Blk X6 (w.heap.size + 1) 35 zkz.toArray:=by rw [← hX6];exact kU5.far_ (by simp) _
 have BX6:Below w.heap.size w X6:=by rw [← hX6];exact (BX5.trans (hbb5.mono BX5.size)).setCell (p:=⟨w.heap.size,6,none⟩) (Nat.le_refl _) _
 have sz6:X5.heap.size ≤ X6.heap.size:=by rw [← hX6];simpa [World.setCell] using hbb5.size
 have zz6:w.heap.size + 1 < X6.heap.size:=kR6.lt;replace o5:OwnE ctE X6 X5.heap.size b5 d5 s.dk.cells:=by rw [← hX6];exact o5.far zq5 _
 replace o0:OwnE intE X6 (w.heap.size + 2) b0 d0 s.sl.refs:=by rw [← hX6];exact (o0.ext hbb5).far (by show w.heap.size < w.heap.size + 2;omega) _
 replace o1:OwnE boolE X6 (w.heap.size + 2) b1 d1 s.sl.busy:=by rw [← hX6];exact (o1.ext hbb5).far (by show w.heap.size < w.heap.size + 2;omega) _
 replace o2:OwnE wrE X6 X2.heap.size b2 d2 s.wr:=by rw [← hX6];exact (o2.ext hbb5).far (by exact zq2) _
 replace o3:OwnE rdE X6 X3.heap.size b3 d3 s.rd:=by rw [← hX6];exact (o3.ext hbb5).far (by exact zq3) _
 replace o4:OwnE intE X6 X4.heap.size b4 d4 s.desc:=by rw [← hX6];exact (o4.ext hbb5).far (by exact zq4) _
 rw [hX6];clear hX6 hb5 hbb5 hc5 hm5 kT5 kU5 q5_6 t5_6 tf5_6 kS5 kR5;have zq6:=kS6.lt;obtain ⟨-,-,-,-,-,-,-,q6_7,-⟩:=zc11 kS6
 go_upto_region 7 with (at_builtin;refine wpList_appR jbE rfl (.tmp 37) (.tmp 40) _ rfl rfl _ X6.heap.size (by simp) (some ⟨X6.heap.size,0,none⟩) 0 0 [] rfl (.inl ⟨rfl,SR.nil⟩) a6 c6 s.dk.jobs.length s.dk.jobs rfl ((HS.out.r6.ext BX6).ext ((Below.refl _ _).alloc (Nat.le_refl _) _)) (by simp;omega) rfl rfl ?_;intro b6 d6 w6 hc6 hb6 hm6;have kT6:=(kS6.alloc_ _).below_ hb6 zq6;have kU6:=(kR6.alloc_ _).below_ hb6 zz6;have zt6:=kT6.lt;have t6_7:w6.cell? ⟨w.heap.size,7,none⟩ = some (.slice a6 s.dk.jobs.length c6):=(by simpa using kT6.cell_ 7);have tf6_7:=kT6.frozen_ 7)
 have hbb6:Below X6.heap.size X6 w6:=Below.trans ((Below.refl _ _).alloc (Nat.le_refl _) _) hb6;have o6:OwnE jbE w6 X6.heap.size b6 d6 s.dk.jobs:=⟨hc6,hm6 (.inl rfl)⟩;obtain ⟨X7,hX7⟩:∃ V,w6.setCell ⟨w.heap.size,7,none⟩ (.slice b6 s.dk.jobs.length d6) = V:=⟨_,rfl⟩;have kS7:Blk X7 w.heap.size 35 (zkx s b0 d0 b1 d1 b2 d2 b3 d3 b4 d4 b5 d5 b6 d6 a7 c7).toArray:=by rw [← hX7];exact kT6.set_ 7 _
 have kR7:Blk X7 (w.heap.size + 1) 35 zkz.toArray:=by rw [← hX7];exact kU6.far_ (by simp) _
 have BX7:Below w.heap.size w X7:=by rw [← hX7];exact (BX6.trans (hbb6.mono BX6.size)).setCell (p:=⟨w.heap.size,7,none⟩) (Nat.le_refl _) _
 have sz7:X6.heap.size ≤ X7.heap.size:=by rw [← hX7];simpa [World.setCell] using hbb6.size
 have zz7:w.heap.size + 1 < X7.heap.size:=kR7.lt;replace o6:OwnE jbE X7 X6.heap.size b6 d6 s.dk.jobs:=by rw [← hX7];exact o6.far zq6 _
 replace o0:OwnE intE X7 (w.heap.size + 2) b0 d0 s.sl.refs:=by rw [← hX7];exact (o0.ext hbb6).far (by show w.heap.size < w.heap.size + 2;omega) _
 replace o1:OwnE boolE X7 (w.heap.size + 2) b1 d1 s.sl.busy:=by rw [← hX7];exact (o1.ext hbb6).far (by show w.heap.size < w.heap.size + 2;omega) _
 replace o2:OwnE wrE X7 X2.heap.size b2 d2 s.wr:=by rw [← hX7];exact (o2.ext hbb6).far (by exact zq2) _
 replace o3:OwnE rdE X7 X3.heap.size b3 d3 s.rd:=by rw [← hX7];exact (o3.ext hbb6).far (by exact zq3) _
 replace o4:OwnE intE X7 X4.heap.size b4 d4 s.desc:=by rw [← hX7];exact (o4.ext hbb6).far (by exact zq4) _
 replace o5:OwnE ctE X7 X5.heap.size b5 d5 s.dk.cells:=by rw [← hX7];exact (o5.ext hbb6).far (by exact zq5) _
 rw [hX7];clear hX7 hb6 hbb6 hc6 hm6 kT6 kU6 q6_7 t6_7 tf6_7 kS6 kR6;have zq7:=kS7.lt;obtain ⟨-,-,-,-,-,-,-,-,-,-,q7_10⟩:=zc11 kS7
 go_upto_region 8 with (at_builtin;refine wpList_appR intE rfl (.tmp 44) (.tmp 47) _ rfl rfl _ X7.heap.size (by simp) (some ⟨X7.heap.size,0,none⟩) 0 0 [] rfl (.inl ⟨rfl,SR.nil⟩) a7 c7 s.po.free.length s.po.free rfl ((HS.out.r7.ext BX7).ext ((Below.refl _ _).alloc (Nat.le_refl _) _)) (by simp;omega) rfl rfl ?_;intro b7 d7 w7 hc7 hb7 hm7;have kT7:=(kS7.alloc_ _).below_ hb7 zq7;have kU7:=(kR7.alloc_ _).below_ hb7 zz7;have zt7:=kT7.lt;have t7_10:w7.cell? ⟨w.heap.size,10,none⟩ = some (.slice a7 s.po.free.length c7):=(by simpa using kT7.cell_ 10);have tf7_10:=kT7.frozen_ 10)
 have hbb7:Below X7.heap.size X7 w7:=Below.trans ((Below.refl _ _).alloc (Nat.le_refl _) _) hb7;have o7:OwnE intE w7 X7.heap.size b7 d7 s.po.free:=⟨hc7,hm7 (.inl rfl)⟩;obtain ⟨X8,hX8⟩:∃ V,w7.setCell ⟨w.heap.size,10,none⟩ (.slice b7 s.po.free.length d7) = V:=⟨_,rfl⟩;have kS8:Blk X8 w.heap.size 35 (zkx s b0 d0 b1 d1 b2 d2 b3 d3 b4 d4 b5 d5 b6 d6 b7 d7).toArray:=by rw [← hX8];exact kT7.set_ 10 _
 have kR8:Blk X8 (w.heap.size + 1) 35 zkz.toArray:=by rw [← hX8];exact kU7.far_ (by simp) _
 have BX8:Below w.heap.size w X8:=by rw [← hX8];exact (BX7.trans (hbb7.mono BX7.size)).setCell (p:=⟨w.heap.size,10,none⟩) (Nat.le_refl _) _
 have sz8:X7.heap.size ≤ X8.heap.size:=by rw [← hX8];simpa [World.setCell] using hbb7.size
 have zz8:w.heap.size + 1 < X8.heap.size:=kR8.lt;replace o7:OwnE intE X8 X7.heap.size b7 d7 s.po.free:=by rw [← hX8];exact o7.far zq7 _
 replace o0:OwnE intE X8 (w.heap.size + 2) b0 d0 s.sl.refs:=by rw [← hX8];exact (o0.ext hbb7).far (by show w.heap.size < w.heap.size + 2;omega) _
 replace o1:OwnE boolE X8 (w.heap.size + 2) b1 d1 s.sl.busy:=by rw [← hX8];exact (o1.ext hbb7).far (by show w.heap.size < w.heap.size + 2;omega) _
 replace o2:OwnE wrE X8 X2.heap.size b2 d2 s.wr:=by rw [← hX8];exact (o2.ext hbb7).far (by exact zq2) _
 replace o3:OwnE rdE X8 X3.heap.size b3 d3 s.rd:=by rw [← hX8];exact (o3.ext hbb7).far (by exact zq3) _
 replace o4:OwnE intE X8 X4.heap.size b4 d4 s.desc:=by rw [← hX8];exact (o4.ext hbb7).far (by exact zq4) _
 replace o5:OwnE ctE X8 X5.heap.size b5 d5 s.dk.cells:=by rw [← hX8];exact (o5.ext hbb7).far (by exact zq5) _
 replace o6:OwnE jbE X8 X6.heap.size b6 d6 s.dk.jobs:=by rw [← hX8];exact (o6.ext hbb7).far (by exact zq6) _
 have p47:Part b4 d4 b7 d7:=u4.part o7 (by omega);rw [hX8];clear hX8 hb7 hbb7 hc7 hm7 kT7 kU7 q7_10 t7_10 tf7_10 kS7 kR7;have zq8:=kS8.lt;obtain ⟨y0,y1,y2,y3,y4,y5,y6,y7,y8,y9,y10⟩:=zc11 kS8;obtain ⟨t0,t1,t2,t3,t4,t5,t6,t7,t8,t9,t10⟩:=zc11 kR8;obtain ⟨tf0,tf1,tf2,tf3,tf4,tf5,tf6,tf7,tf8,tf9,tf10,-⟩:=zf kR8;go_wp2_with fail;obtain ⟨W,hW⟩:∃ W,setN X8 (w.heap.size + 1) 0 (zkx s b0 d0 b1 d1 b2 d2 b3 d3 b4 d4 b5 d5 b6 d6 b7 d7) = W:=⟨_,rfl⟩;have hWn:=zs11 hW;have kW:=zsw hW kR8;have bW:=zbw hW BX8 (by omega);have v0:OwnE intE W (w.heap.size + 2) b0 d0 s.sl.refs:=by rw [← hW];exact (o0.base_ (by omega)).farN (by exact Nat.lt_succ_self _) _
 have v1:OwnE boolE W (w.heap.size + 2) b1 d1 s.sl.busy:=by rw [← hW];exact (o1.base_ (by omega)).farN (by exact Nat.lt_succ_self _) _
 have v2:OwnE wrE W (w.heap.size + 2) b2 d2 s.wr:=by rw [← hW];exact (o2.base_ (by omega)).farN (by exact Nat.lt_succ_self _) _
 have v3:OwnE rdE W (w.heap.size + 2) b3 d3 s.rd:=by rw [← hW];exact (o3.base_ (by omega)).farN (by exact Nat.lt_succ_self _) _
 have v4:OwnE intE W (w.heap.size + 2) b4 d4 s.desc:=by rw [← hW];exact (o4.base_ (by omega)).farN (by exact Nat.lt_succ_self _) _
 have v5:OwnE ctE W (w.heap.size + 2) b5 d5 s.dk.cells:=by rw [← hW];exact (o5.base_ (by omega)).farN (by exact Nat.lt_succ_self _) _
 have v6:OwnE jbE W (w.heap.size + 2) b6 d6 s.dk.jobs:=by rw [← hW];exact (o6.base_ (by omega)).farN (by exact Nat.lt_succ_self _) _
 have v7:OwnE intE W (w.heap.size + 2) b7 d7 s.po.free:=by rw [← hW];exact (o7.base_ (by omega)).farN (by exact Nat.lt_succ_self _) _
 rw [hWn];clear hWn hW t0 tf0 y0 t1 tf1 y1 t2 tf2 y2 t3 tf3 y3 t4 tf4 y4 t5 tf5 y5 t6 tf6 y6 t7 tf7 y7 t8 tf8 y8 t9 tf9 y9 t10 tf10 y10;refine bodyPost_ret (by simp [results,Tryz.results54,go_sem,zc11 kW] <;> rfl) rfl ?_;exact ⟨⟨b0,d0,b1,d1,b2,d2,b3,d3,b4,d4,b5,d5,b6,d6,b7,d7⟩,rfl,⟨v0.base_ (by omega),v1.base_ (by omega),(v2.base_ (by omega)).mn,v3.base_ (by omega),v4.base_ (by omega),v5.base_ (by omega),v6.base_ (by omega),v7.base_ (by omega),p04,p47.symm⟩,bW⟩
def StFk (s:Sts) (v:Value) (lo _:Nat) (w:World):Prop:=∃ A c B d,v = stV A c B d s∧OwnE intE w lo A c s.refs∧OwnE boolE w lo B d s.busy
theorem StFk.lasts (s:Sts):(Fk.has (StFk s)).lasts:=fun _ _ _ _ _ ⟨A,c,B,d,e,h1,h2⟩ hb => ⟨A,c,B,d,e,h1.ext hb,h2.ext hb⟩
def DkFk (k0:Dsk) (v:Value) (lo _:Nat) (w:World):Prop:=∃ A c B d,v = dkV A c B d k0∧OwnE ctE w lo A c k0.cells∧OwnE jbE w lo B d k0.jobs
theorem DkFk.lasts (k0:Dsk):(Fk.has (DkFk k0)).lasts:=fun _ _ _ _ _ ⟨A,c,B,d,e,h1,h2⟩ hb => ⟨A,c,B,d,e,h1.ext hb,h2.ext hb⟩
def PoFk (p:Pol) (v:Value) (lo _:Nat) (w:World):Prop:=∃ A c,v = poV A c p∧OwnE intE w lo A c p.free
theorem PoFk.lasts (p:Pol):(Fk.has (PoFk p)).lasts:=fun _ _ _ _ _ ⟨A,c,e,h1⟩ hb => ⟨A,c,e,h1.ext hb⟩
theorem kOwnPool_any (A:Option Addr) (c:Nat) (p:Pol) (w:World) (ha:SR intE w A p.free) (la:p.free.length ≤ 1000) :
  Calls Tryz.prog 44 #[poV A c p] w fun e w' => ∃ A' c',e = .returned (poV A' c' p)∧OwnE intE w' w.heap.size A' c' p.free∧Below w.heap.size w w':=by
 have HA:=Lib.hid ha
 clear ha
 unfold poV
 obtain ⟨X,hX⟩:∃ X,(w.alloc (.cells #[.int .i64 p.size,.slice A p.free.length c] 33)).alloc (.cells #[.int .i64 0,.slice none 0 0] 33) = X:=⟨_,rfl⟩
 have kX:=za1 hX
 have kR:=za2 hX
 have BX:Below w.heap.size w X:=by rw [← hX];exact zbl
 have zX:=kX.lt
 have zR:=kR.lt
 obtain ⟨q0,q1⟩:=zc2 kX
 go_enter Tryz.func44,Tryz.ntmps44
 go_upto_region 1 with fail
 (try rw [hX])
 clear hX
 go_upto_region 2 with (at_builtin;refine wpList_appR intE rfl (.tmp 3) (.tmp 5) _ rfl rfl _ X.heap.size (by simp) (some ⟨X.heap.size,0,none⟩) 0 0 [] rfl (.inl ⟨rfl,SR.nil⟩) A c p.free.length p.free rfl ((HA.out.ext BX).ext ((Below.refl _ _).alloc (Nat.le_refl _) _)) (by simp;omega) rfl rfl ?_;intro b1 d1 w1 hc1 hb1 hm1;have kT:=(kX.alloc_ _).below_ hb1 zX;have kU:=(kR.alloc_ _).below_ hb1 zR;have zT:=kT.lt;have t1:w1.cell? ⟨w.heap.size,1,none⟩ = some (.slice A p.free.length c):=(by simpa using kT.cell_ 1);have tf1:=kT.frozen_ 1)
 have hbb:Below X.heap.size X w1:=Below.trans ((Below.refl _ _).alloc (Nat.le_refl _) _) hb1
 have o1:OwnE intE w1 X.heap.size b1 d1 p.free:=⟨hc1,hm1 (.inl rfl)⟩
 obtain ⟨X2,hX2⟩:∃ V,w1.setCell ⟨w.heap.size,1,none⟩ (.slice b1 p.free.length d1) = V:=⟨_,rfl⟩
 have kS2:Blk X2 w.heap.size 33 #[.int .i64 p.size,.slice b1 p.free.length d1]:=by rw [← hX2];exact kT.set_ 1 _
 have kR2:Blk X2 (w.heap.size + 1) 33 #[.int .i64 0,.slice none 0 0]:=by rw [← hX2];exact kU.far_ (by simp) _
 have BX2:Below w.heap.size w X2:=by rw [← hX2];exact (BX.trans (hbb.mono BX.size)).setCell (p:=⟨w.heap.size,1,none⟩) (Nat.le_refl _) _
 replace o1:OwnE intE X2 X.heap.size b1 d1 p.free:=by rw [← hX2];exact o1.far zX _
 rw [hX2]
 clear hX2 hb1 hbb hc1 hm1 kT kU t1 tf1 q0 q1
 have zS2:=kS2.lt
 obtain ⟨y0,y1⟩:=zc2 kS2
 obtain ⟨t0,t1⟩:=zc2 kR2
 obtain ⟨tf0,tf1,-⟩:=zf kR2
 go_wp2_with fail
 obtain ⟨W,hW⟩:∃ W,setN X2 (w.heap.size + 1) 0 [.int .i64 p.size,.slice b1 p.free.length d1] = W:=⟨_,rfl⟩
 have hWn:World.setCell (World.setCell X2 ⟨w.heap.size + 1,0,none⟩ (.int .i64 p.size)) ⟨w.heap.size + 1,1,none⟩ (.slice b1 p.free.length d1) = W:=hW
 have kW:=zsw hW kR2
 have bW:=zbw hW BX2 (by omega)
 have oW:OwnE intE W X.heap.size b1 d1 p.free:=by rw [← hW];exact o1.farN zR _
 rw [hWn]
 clear hWn hW t0 t1 tf0 tf1 y0 y1
 refine bodyPost_ret (by simp [results,Tryz.results44,go_sem,zc2 kW] <;> rfl) rfl ?_
 exact ⟨b1,d1,rfl,oW.base_ (by omega),bW⟩
def SwPk (R:Swp) (w:World) (e:Ending) (w':World):Prop:=∃ L,e = .returned (swV L R)∧SwR w' L R∧Below w.heap.size w w'
theorem kOwnSwap_any (L:Lay) (s:Swp) (w:World) (h:SwR w L s) (hf:Few s):Calls Tryz.prog 13 #[swV L s] w (SwPk s w):=by
 obtain ⟨a0,c0,a1,c1,a2,c2,a3,c3,a4,c4,a5,c5,a6,c6,a7,c7⟩:=L;have HS:=Lib.hid h;obtain ⟨f0,f1,f2,f3,f4,f5,f6,f7⟩:=hf;clear h;unfold swV swC;obtain ⟨X,hX⟩:∃ X,(w.alloc (.cells (zkx s a0 c0 a1 c1 a2 c2 a3 c3 a4 c4 a5 c5 a6 c6 a7 c7).toArray 35)).alloc (.cells zkz.toArray 35) = X:=⟨_,rfl⟩;have kX:=za1 hX;have kR:=za2 hX;have BX:Below w.heap.size w X:=by rw [← hX];exact zbl
 go_enter Tryz.func13,Tryz.ntmps13
 go_wp2_with fail;(try rw [hX]);clear hX;refine zrg [0,1,2,0,1,2,0,1,2,0,3,0,3,0,3] [[],[],[],[],[],[],[],[],[],[],[],[],[],[],[]] [.is ?_,.kn ?_,.has (StFk s.sl),.is ?_,.kn ?_,.has (DkFk s.dk),.is ?_,.kn ?_,.has (PoFk s.po),.is ?_,.late,.is ?_,.late,.is ?_,.late] [10,12,14] (lts_is (lts_kn (lts_has (StFk.lasts s.sl) (lts_is (lts_kn (lts_has (DkFk.lasts s.dk) (lts_is (lts_kn (lts_has (PoFk.lasts s.po) (lts_is (lts_late (lts_is (lts_late (lts_is (lts_late lts_nil))))))))))))))) (fun W0 hb0 hz0 => ?_)
 rotate_left 9
 have kW:=kX.below_ hb0 kX.lt;have zW:=kW.lt;have kR0:=kR.below_ hb0 kR.lt;have H0:=Lib.hid ((HS.out.r0.ext BX).ext hb0);have H1:=Lib.hid ((HS.out.r1.ext BX).ext hb0);have H5:=Lib.hid ((HS.out.r5.ext BX).ext hb0);have H6:=Lib.hid ((HS.out.r6.ext BX).ext hb0);have H7:=Lib.hid ((HS.out.r7.ext BX).ext hb0);obtain ⟨p0,p1,p2,p3,p4,p5,p6,p7,p8,p9,p10⟩:=zc11 kW;refine zqp ?_;refine zqT (fun w hbw hd => ?_) ?_
 ·have r1:=cell_keep hbw p1 zW
  have r2:=cell_keep hbw p2 zW;exact zgs
 refine zqh (fun w hbw hd K Q' hK => ?_) (fun voa2 => ?_)
 ·clear hd
  go_simp;refine (kOwnSlots_any a0 a1 c0 c1 s.sl w (H0.out.ext hbw) (H1.out.ext hbw) (by omega) (by omega)).mono ?_;rintro e y ⟨A',c',B',d',rfl,ho,hp,hy⟩;go_wp2_with fail;exact hK.out (stV A' c' B' d' s.sl) _ _ zpt zbm ⟨A',c',B',d',rfl,ho,hp⟩
 refine zqp ?_;refine zqT (fun w hbw hd => ?_) ?_
 ·have r6:=cell_keep hbw p6 zW
  have r7:=cell_keep hbw p7 zW;have r8:=cell_keep hbw p8 zW;exact zgs
 refine zqh (fun w hbw hd K Q' hK => ?_) (fun voa5 => ?_)
 ·clear hd
  go_simp;refine (kOwnDisk_any a5 a6 c5 c6 s.dk w (H5.out.ext hbw) (H6.out.ext hbw) (by omega) (by omega)).mono ?_;rintro e y ⟨A',c',B',d',rfl,ho,hp,hy⟩;go_wp2_with fail;exact hK.out (dkV A' c' B' d' s.dk) _ _ zpt zbm ⟨A',c',B',d',rfl,ho,hp⟩
 refine zqp ?_;refine zqT (fun w hbw hd => ?_) ?_
 ·have r9:=cell_keep hbw p9 zW
  have r10:=cell_keep hbw p10 zW;exact zgs
 refine zqh (fun w hbw hd K Q' hK => ?_) (fun voa8 => ?_)
 ·clear hd
  go_simp;refine (kOwnPool_any a7 c7 s.po w (H7.out.ext hbw) (by omega)).mono ?_;rintro e y ⟨A',c',rfl,ho,hy⟩;go_wp2_with fail;exact hK.out (poV A' c' s.po) _ _ zpt zbm ⟨A',c',rfl,ho⟩
 refine zqp ?_;refine zql ?_;refine zqp ?_;refine zql ?_;refine zqp ?_;refine zql ?_;refine chn_end (fun wz lo hi hbz hd hR => ?_);obtain ⟨b0,d0,b1,d1,rfl,o0,o1⟩:StFk s.sl voa2 (lo 2) (hi 2) wz:=hd 2 _ _ rfl rfl;obtain ⟨b5,d5,b6,d6,rfl,o5,o6⟩:DkFk s.dk voa5 (lo 5) (hi 5) wz:=hd 5 _ _ rfl rfl;obtain ⟨b7,d7,rfl,o7⟩:PoFk s.po voa8 (lo 8) (hi 8) wz:=hd 8 _ _ rfl rfl;unfold stV dkV poV;have r2:=(hR.2 2 _ rfl).1;have r5:=(hR.2 5 _ rfl).1;have r8:=(hR.2 8 _ rfl).1;have zX1:w.heap.size + 1 < W0.heap.size:=kR0.lt;have BZ:Below w.heap.size w wz:=BX.trans ((hb0.trans (hbz.mono hb0.size)).mono BX.size);have kZ:=kW.below_ hbz zW;have kRZ:=kR0.below_ hbz zX1;have zZ:=kZ.lt;clear hd hR p0 p1 p2 p3 p4 p5 p6 p7 p8 p9 p10;obtain ⟨-,y1,y2,-,-,-,y6,y7,y8,y9,y10⟩:=zc11 kZ;obtain ⟨-,yf1,yf2,-,-,-,yf6,yf7,yf8,yf9,yf10,-⟩:=zf kZ;refine late_cons (by kernel_rfl) (by simp only [zy5,zy6,zy7];rfl) (fun K Q' hK => ?_);go_simp;refine hK.out _ ?_;clear hK K Q';refine late_cons (by kernel_rfl) (by simp only [zy5,zy6,zy7];rfl) (fun K Q' hK => ?_);go_simp;refine hK.out _ ?_;clear hK K Q';refine late_cons (by kernel_rfl) (by simp only [zy5,zy6,zy7];rfl) (fun K Q' hK => ?_);go_simp;refine hK.out _ ?_;clear hK K Q';refine late_none ?_;obtain ⟨X2,hX2⟩:∃ V,setN (setN (setN wz w.heap.size 1 [.slice b0 s.sl.refs.length d0,.slice b1 s.sl.busy.length d1]) w.heap.size 6 [.slice b5 s.dk.cells.length d5,.slice b6 s.dk.jobs.length d6,.int .i64 s.dk.room]) w.heap.size 9 [.int .i64 s.po.size,.slice b7 s.po.free.length d7] = V:=⟨_,rfl⟩;have hX2n:World.setCell (World.setCell (World.setCell (World.setCell (World.setCell (World.setCell (World.setCell wz ⟨w.heap.size,1,none⟩ (.slice b0 s.sl.refs.length d0)) ⟨w.heap.size,2,none⟩ (.slice b1 s.sl.busy.length d1)) ⟨w.heap.size,6,none⟩ (.slice b5 s.dk.cells.length d5)) ⟨w.heap.size,7,none⟩ (.slice b6 s.dk.jobs.length d6)) ⟨w.heap.size,8,none⟩ (.int .i64 s.dk.room)) ⟨w.heap.size,9,none⟩ (.int .i64 s.po.size)) ⟨w.heap.size,10,none⟩ (.slice b7 s.po.free.length d7) = X2:=hX2;have kS2:Blk X2 w.heap.size 35 (zkx s b0 d0 b1 d1 a2 c2 a3 c3 a4 c4 b5 d5 b6 d6 b7 d7).toArray:=by rw [← hX2];exact (Blk.set_ (Blk.set_ (Blk.set_ (Blk.set_ (Blk.set_ (Blk.set_ (Blk.set_ kZ 1 _) 2 _) 6 _) 7 _) 8 _) 9 _) 10 _)
 have kR2:Blk X2 (w.heap.size + 1) 35 zkz.toArray:=by rw [← hX2];exact ((kRZ.kept (grown_setN _ _ _ _) (by simp)).kept (grown_setN _ _ _ _) (by simp)).kept (grown_setN _ _ _ _) (by simp)
 have BX2:Below w.heap.size w X2:=by rw [← hX2];exact below_setN (below_setN (below_setN BZ (Nat.le_refl _) _) (Nat.le_refl _) _) (Nat.le_refl _) _
 replace o0:OwnE intE X2 (w.heap.size + 2) b0 d0 s.sl.refs:=by rw [← hX2];exact (((o0.base_ (by omega)).farN (by omega) _).farN (by omega) _).farN (by omega) _
 replace o1:OwnE boolE X2 (w.heap.size + 2) b1 d1 s.sl.busy:=by rw [← hX2];exact (((o1.base_ (by omega)).farN (by omega) _).farN (by omega) _).farN (by omega) _
 replace o5:OwnE ctE X2 (w.heap.size + 2) b5 d5 s.dk.cells:=by rw [← hX2];exact (((o5.base_ (by omega)).farN (by omega) _).farN (by omega) _).farN (by omega) _
 replace o6:OwnE jbE X2 (w.heap.size + 2) b6 d6 s.dk.jobs:=by rw [← hX2];exact (((o6.base_ (by omega)).farN (by omega) _).farN (by omega) _).farN (by omega) _
 replace o7:OwnE intE X2 (w.heap.size + 2) b7 d7 s.po.free:=by rw [← hX2];exact (((o7.base_ (by omega)).farN (by omega) _).farN (by omega) _).farN (by omega) _
 rw [hX2n];clear hX2n hX2 kZ kRZ zZ y1 yf1 y2 yf2 y6 yf6 y7 yf7 y8 yf8 y9 yf9 y10 yf10;have zS2:=kS2.lt;have zR2:=kR2.lt;go_wp2_with fail;refine zrg [2,0,1,2,2,0,1,2,0,1,2,0,3,0,3,0,3] [[],[],[],[],[],[],[],[],[],[],[],[],[],[],[],[],[]] [.has (LitE),.is ?_,.kn ?_,.has (ClnF wrE s.wr s.wr.length),.has (LitE),.is ?_,.kn ?_,.has (ClnF rdE s.rd s.rd.length),.is ?_,.kn ?_,.has (ClnF intE s.desc s.desc.length),.is ?_,.late,.is ?_,.late,.is ?_,.late] [12,14,16] (lts_has (LitE.lasts) (lts_is (lts_kn (lts_has (ClnF.lasts wrE s.wr _) (lts_has (LitE.lasts) (lts_is (lts_kn (lts_has (ClnF.lasts rdE s.rd _) (lts_is (lts_kn (lts_has (ClnF.lasts intE s.desc _) (lts_is (lts_late (lts_is (lts_late (lts_is (lts_late lts_nil))))))))))))))))) (fun W0 hb0 hz0 => ?_)
 rotate_left 9
 have kW:=kS2.below_ hb0 kS2.lt;have zW:=kW.lt;have kR0:=kR2.below_ hb0 kR2.lt;have H2:=Lib.hid ((HS.out.r2.ext BX2).ext hb0);have H3:=Lib.hid ((HS.out.r3.ext BX2).ext hb0);have H4:=Lib.hid ((HS.out.r4.ext BX2).ext hb0);obtain ⟨-,-,-,p3,p4,p5,-⟩:=zc11 kW;refine zqh (fun w hbw hd K Q' hK => ?_) (fun vob0 => ?_)
 ·clear hd
  go_simp;exact hK.out (.slice (some ⟨w.heap.size,0,none⟩) 0 0) _ _ zpt zbm ⟨_,rfl⟩
 refine zqp ?_;refine zqT (fun w hbw hd => ?_) ?_
 ·have q1:=cell_keep hbw p3 zW
  exact zgs
 refine zqh (fun w hbw hd K Q' hK => ?_) (fun vob3 => ?_)
 ·obtain ⟨_,_,g,rfl⟩:∃ lo hi,LitE vob0 lo hi w:=hd 0 _ _ (by kernel_rfl) rfl rfl
  clear hd;refine step_appF wrE rfl (.tmp 15) (.tmp 17) _ rfl rfl w g a2 c2 s.wr.length s.wr rfl (H2.out.ext hbw) (by omega) rfl rfl ?_;intro A' c' y ho hy;exact hK.out (.slice A' s.wr.length c') _ _ zpt zbm ⟨A',c',rfl,ho⟩
 refine zqh (fun w hbw hd K Q' hK => ?_) (fun vob4 => ?_)
 ·clear hd
  go_simp;exact hK.out (.slice (some ⟨w.heap.size,0,none⟩) 0 0) _ _ zpt zbm ⟨_,rfl⟩
 refine zqp ?_;refine zqT (fun w hbw hd => ?_) ?_
 ·have q1:=cell_keep hbw p4 zW
  exact zgs
 refine zqh (fun w hbw hd K Q' hK => ?_) (fun vob7 => ?_)
 ·obtain ⟨_,_,g,rfl⟩:∃ lo hi,LitE vob4 lo hi w:=hd 4 _ _ (by kernel_rfl) rfl rfl
  clear hd;refine step_appF rdE rfl (.tmp 19) (.tmp 21) _ rfl rfl w g a3 c3 s.rd.length s.rd rfl (H3.out.ext hbw) (by omega) rfl rfl ?_;intro A' c' y ho hy;exact hK.out (.slice A' s.rd.length c') _ _ zpt zbm ⟨A',c',rfl,ho⟩
 refine zqp ?_;refine zqT (fun w hbw hd => ?_) ?_
 ·have r5:=cell_keep hbw p5 zW
  exact zgs
 refine zqh (fun w hbw hd K Q' hK => ?_) (fun vob10 => ?_)
 ·clear hd
  go_simp;refine (kOwnInts_any a4 c4 s.desc w (H4.out.ext hbw) (by omega)).mono ?_;rintro e y ⟨A',c',rfl,ho,hy⟩;go_wp2_with fail;exact hK.out (.slice A' s.desc.length c') _ _ zpt zbm ⟨A',c',rfl,ho⟩
 refine zqp ?_;refine zql ?_;refine zqp ?_;refine zql ?_;refine zqp ?_;refine zql ?_;refine chn_end (fun wz lo hi hbz hd hR => ?_);obtain ⟨b2,d2,rfl,o2⟩:ClnF wrE s.wr s.wr.length vob3 (lo 3) (hi 3) wz:=hd 3 _ _ rfl rfl;obtain ⟨b3,d3,rfl,o3⟩:ClnF rdE s.rd s.rd.length vob7 (lo 7) (hi 7) wz:=hd 7 _ _ rfl rfl;obtain ⟨b4,d4,rfl,o4⟩:ClnF intE s.desc s.desc.length vob10 (lo 10) (hi 10) wz:=hd 10 _ _ rfl rfl;have r3:=(hR.2 3 _ rfl).1;have r7:=(hR.2 7 _ rfl).1;have r10:=(hR.2 10 _ rfl).1;have zX1:w.heap.size + 1 < W0.heap.size:=kR0.lt;have hbA:=zbt hb0 hbz;have BZ:=zbt BX2 hbA;have kZ:=kW.below_ hbz zW;have kRZ:=kR0.below_ hbz zX1;have zZ:=kZ.lt;clear hd hR p3 p4 p5;obtain ⟨-,-,-,y3,y4,y5,-⟩:=zc11 kZ;obtain ⟨-,-,-,yf3,yf4,yf5,-⟩:=zf kZ;refine late_cons (by kernel_rfl) (by simp only [zy5,zy6,zy7];rfl) (fun K Q' hK => ?_);go_simp;refine hK.out _ ?_;clear hK K Q';refine late_cons (by kernel_rfl) (by simp only [zy5,zy6,zy7];rfl) (fun K Q' hK => ?_);go_simp;refine hK.out _ ?_;clear hK K Q';refine late_cons (by kernel_rfl) (by simp only [zy5,zy6,zy7];rfl) (fun K Q' hK => ?_);go_simp;refine hK.out _ ?_;clear hK K Q';refine late_none ?_;obtain ⟨X3,hX3⟩:∃ V,setN wz w.heap.size 3 [.slice b2 s.wr.length d2,.slice b3 s.rd.length d3,.slice b4 s.desc.length d4] = V:=⟨_,rfl⟩;have hX3n:World.setCell (World.setCell (World.setCell wz ⟨w.heap.size,3,none⟩ (.slice b2 s.wr.length d2)) ⟨w.heap.size,4,none⟩ (.slice b3 s.rd.length d3)) ⟨w.heap.size,5,none⟩ (.slice b4 s.desc.length d4) = X3:=hX3;have kS3:Blk X3 w.heap.size 35 (zkx s b0 d0 b1 d1 b2 d2 b3 d3 b4 d4 b5 d5 b6 d6 b7 d7).toArray:=by rw [← hX3];exact (Blk.set_ (Blk.set_ (Blk.set_ kZ 3 _) 4 _) 5 _)
 have kR3:Blk X3 (w.heap.size + 1) 35 zkz.toArray:=by rw [← hX3];exact kRZ.kept (grown_setN _ _ _ _) (by simp)
 have BX3:Below w.heap.size w X3:=by rw [← hX3];exact below_setN BZ (Nat.le_refl _) _
 replace o0:OwnE intE X3 (w.heap.size + 2) b0 d0 s.sl.refs:=by rw [← hX3];exact (o0.ext hbA).farN (by omega) _
 replace o1:OwnE boolE X3 (w.heap.size + 2) b1 d1 s.sl.busy:=by rw [← hX3];exact (o1.ext hbA).farN (by omega) _
 replace o5:OwnE ctE X3 (w.heap.size + 2) b5 d5 s.dk.cells:=by rw [← hX3];exact (o5.ext hbA).farN (by omega) _
 replace o6:OwnE jbE X3 (w.heap.size + 2) b6 d6 s.dk.jobs:=by rw [← hX3];exact (o6.ext hbA).farN (by omega) _
 replace o7:OwnE intE X3 (w.heap.size + 2) b7 d7 s.po.free:=by rw [← hX3];exact (o7.ext hbA).farN (by omega) _
 replace o2:OwnE wrE X3 (w.heap.size + 2) b2 d2 s.wr:=by rw [← hX3];exact (o2.base_ (by omega)).farN (by omega) _
 replace o3:OwnE rdE X3 (w.heap.size + 2) b3 d3 s.rd:=by rw [← hX3];exact (o3.base_ (by omega)).farN (by omega) _
 replace o4:OwnE intE X3 (w.heap.size + 2) b4 d4 s.desc:=by rw [← hX3];exact (o4.base_ (by omega)).farN (by omega) _
 rw [hX3n];clear hX3n hX3 kZ kRZ zZ y3 y4 y5 yf3 yf4 yf5;have zS3:=kS3.lt;obtain ⟨y0,y1,y2,y3,y4,y5,y6,y7,y8,y9,y10⟩:=zc11 kS3;obtain ⟨t0,t1,t2,t3,t4,t5,t6,t7,t8,t9,t10⟩:=zc11 kR3;obtain ⟨tf0,tf1,tf2,tf3,tf4,tf5,tf6,tf7,tf8,tf9,tf10,-⟩:=zf kR3;go_wp2_with fail;obtain ⟨W,hW⟩:∃ W,setN X3 (w.heap.size + 1) 0 (zkx s b0 d0 b1 d1 b2 d2 b3 d3 b4 d4 b5 d5 b6 d6 b7 d7) = W:=⟨_,rfl⟩;have hWn:=zs11 hW;have kW:=zsw hW kR3;have bW:=zbw hW BX3 (by omega);have v0:OwnE intE W (w.heap.size + 2) b0 d0 s.sl.refs:=by rw [← hW];exact o0.farN (by exact Nat.lt_succ_self _) _
 have v1:OwnE boolE W (w.heap.size + 2) b1 d1 s.sl.busy:=by rw [← hW];exact o1.farN (by exact Nat.lt_succ_self _) _
 have v5:OwnE ctE W (w.heap.size + 2) b5 d5 s.dk.cells:=by rw [← hW];exact o5.farN (by exact Nat.lt_succ_self _) _
 have v6:OwnE jbE W (w.heap.size + 2) b6 d6 s.dk.jobs:=by rw [← hW];exact o6.farN (by exact Nat.lt_succ_self _) _
 have v7:OwnE intE W (w.heap.size + 2) b7 d7 s.po.free:=by rw [← hW];exact o7.farN (by exact Nat.lt_succ_self _) _
 have v2:OwnE wrE W (w.heap.size + 2) b2 d2 s.wr:=by rw [← hW];exact o2.farN (by exact Nat.lt_succ_self _) _
 have v3:OwnE rdE W (w.heap.size + 2) b3 d3 s.rd:=by rw [← hW];exact o3.farN (by exact Nat.lt_succ_self _) _
 have v4:OwnE intE W (w.heap.size + 2) b4 d4 s.desc:=by rw [← hW];exact o4.farN (by exact Nat.lt_succ_self _) _
 rw [hWn];clear hWn hW t0 tf0 y0 t1 tf1 y1 t2 tf2 y2 t3 tf3 y3 t4 tf4 y4 t5 tf5 y5 t6 tf6 y6 t7 tf7 y7 t8 tf8 y8 t9 tf9 y9 t10 tf10 y10;refine bodyPost_ret (by simp [results,Tryz.results13,go_sem,zc11 kW] <;> rfl) rfl ?_;exact ⟨⟨b0,d0,b1,d1,b2,d2,b3,d3,b4,d4,b5,d5,b6,d6,b7,d7⟩,rfl,⟨v0.sr,v1.sr,v2.sr,v3.sr,v4.sr,v5.sr,v6.sr,v7.sr⟩,bW⟩
theorem addD_ok {k0:Dsk} {j:Jb} (h:(addD k0 j).2 = 0):OkD k0∧inD k0 j.slot j.frame = true∧hitD k0.jobs j.slot j.frame = false∧(k0.jobs.length:Int) < k0.room∧addD k0 j = (⟨k0.cells,k0.jobs ++ [j],k0.room⟩,0):=by
 unfold addD at h ⊢
 by_cases h1:(chkD k0).1 ≠ 0
 ·rw [if_pos h1] at h;exact absurd h h1
 rw [if_neg h1] at h ⊢
 cases h2:inD k0 j.slot j.frame with
 | false => rw [h2] at h;simp at h
 | true =>
  rw [h2] at h
  cases h3:hitD k0.jobs j.slot j.frame with
  | true => rw [h3] at h;simp at h
  | false =>
   rw [h3] at h
   by_cases h4:k0.room ≤ k0.jobs.length
   ·simp [h4] at h
   ·refine ⟨chkD_ok.1 (by simpa using h1),rfl,rfl,by omega,?_⟩
    simp [h4]
theorem rdAdd_any (A B:Option Addr) (c d:Nat) (k0:Dsk) (j:Jb) (w:World) (ha:SR ctE w A k0.cells) (hb:SR jbE w B k0.jobs) (la:k0.cells.length ≤ 1000) (lb:k0.jobs.length ≤ 1000) (h0:(addD k0 j).2 = 0) :
  Calls Tryz.prog 118 #[dkV A c B d k0,jbV j] w (DkPost (addD k0 j) w):=by
 obtain ⟨hok,hin,hit,hrm,hE⟩:=addD_ok h0
 rw [hE]
 obtain ⟨jw,js,jf,⟨x0,x1,x2,x3,x4,x5,x6,x7⟩⟩:=j
 dsimp only at hin hit
 have hin2:0 ≤ js∧js < k0.cells.length∧0 ≤ jf∧jf < 256:=by unfold inD at hin;simpa using hin
 have HC:=Lib.hid (fun W h => rdCheck_any A B c d k0 W h la lb (chkD_zero hok))
 have HS:=Lib.hid (fun W => rdSlot_any A B c d k0.cells.length k0.jobs.length k0.room js W)
 have d1:decide (0 ≤ js∧js < (k0.cells.length:Int)) = true:=decide_eq_true ⟨hin2.1,hin2.2.1⟩
 have d2:decide (0 ≤ jf∧jf < 256) = true:=decide_eq_true hin2.2.2
 have HS2:=HS.out
 simp only [d1] at HS2
 have HSL:=Lib.hid HS2
 have HIT:=Lib.hid hit
 have hrb:((k0.jobs.length:Int) == k0.room) = false:=by simp;omega
 have HO:=Lib.hid (fun W h1 h2 => rdOwn_any A B c d k0 W h1 h2 la lb)
 have HA:=Lib.hid ha
 have HB:=Lib.hid hb
 clear ha hb h0 hok hin hit hrm hE hin2 HS HS2 d1
 unfold dkV at HC HO
 show Calls _ _ #[.agg #[.slice A k0.cells.length c,.slice B k0.jobs.length d,.int .i64 k0.room],.agg (zkj jw js jf x0 x1 x2 x3 x4 x5 x6 x7).toArray] _ _
 obtain ⟨X,hX⟩:∃ X,((w.alloc (.cells #[.slice A k0.cells.length c,.slice B k0.jobs.length d,.int .i64 k0.room] 31)).alloc (.cells (zkj jw js jf x0 x1 x2 x3 x4 x5 x6 x7).toArray 115)).alloc (.cells #[.slice none 0 0,.slice none 0 0,.int .i64 0] 31) = X:=⟨_,rfl⟩
 have kD:Blk X w.heap.size 31 #[.slice A k0.cells.length c,.slice B k0.jobs.length d,.int .i64 k0.room]:=by rw [← hX];exact ((Blk.new_ rfl rfl).alloc_ _).alloc_ _
 have kJ:Blk X (w.heap.size + 1) 115 (zkj jw js jf x0 x1 x2 x3 x4 x5 x6 x7).toArray:=by rw [← hX];exact (Blk.new_ (by simp) rfl:Blk _ (w.heap.size + 1) _ _).alloc_ _
 have kT:Blk X (w.heap.size + 2) 31 #[.slice none 0 0,.slice none 0 0,.int .i64 0]:=by rw [← hX];exact Blk.new_ (by simp) rfl
 have BX:Below w.heap.size w X:=by rw [← hX];exact zbl
 have zD:=kD.lt
 obtain ⟨q0,q1,q2⟩:=zc3 kD
 go_enter Tryz.func118,Tryz.ntmps118
 go_wp2_with fail
 (try rw [hX])
 clear hX
 refine (HC.out X (HB.out.ext BX)).mono ?_
 rintro e1 w1 ⟨rfl,hb1⟩
 have B1:=zbt BX hb1
 replace kD:=kD.below_ hb1 kD.lt
 replace kJ:=kJ.below_ hb1 kJ.lt
 replace kT:=kT.below_ hb1 kT.lt
 have zD:=kD.lt
 have zJ:=kJ.lt
 have zT:=kT.lt
 clear q0 q1 q2
 obtain ⟨q0,q1,q2⟩:=zc3 kD
 obtain ⟨-,j1,j2,-⟩:=zc11 kJ
 go_wp2_with fail
 refine (HSL.out w1).mono ?_
 rintro e2 w2 ⟨rfl,hb2⟩
 have B2:=zbt B1 hb2
 replace kD:=kD.below_ hb2 kD.lt
 replace kJ:=kJ.below_ hb2 kJ.lt
 replace kT:=kT.below_ hb2 kT.lt
 have zD:=kD.lt
 have zJ:=kJ.lt
 have zT:=kT.lt
 clear q0 q1 q2 j1 j2 HSL
 obtain ⟨q0,q1,q2⟩:=zc3 kD
 obtain ⟨-,j1,j2,-⟩:=zc11 kJ
 go_wp2_with (go_at_call 167;refine (rdFrame_any jf _).mono ?_;rintro e w' ⟨rfl,rfl⟩;rw [d2])
 clear q0 q1 q2 j1 j2 d2
 go_loopw [8] (fun i wr => ∃ k:Nat,k ≤ k0.jobs.length∧i = .int .i64 k∧Below w2.heap.size w2 wr) (fun i _ => k0.jobs.length - (intOf i).toNat)
 case atStart => exact ⟨0,by omega,rfl,Below.refl _ _⟩
 case round =>
  obtain ⟨k,hk,rfl,hbw⟩:=hrel
  have B3:=zbt B2 hbw
  replace kD:=kD.below_ hbw kD.lt
  replace kJ:=kJ.below_ hbw kJ.lt
  replace kT:=kT.below_ hbw kT.lt
  have zD:=kD.lt
  have zJ:=kJ.lt
  have zT:=kT.lt
  obtain ⟨q0,q1,q2⟩:=zc3 kD
  obtain ⟨j0,j1,j2,j3,j4,j5,j6,j7,j8,j9,j10⟩:=zc11 kJ
  by_cases hlt:k < k0.jobs.length
  ·obtain ⟨b2,off2,y,rfl,hbl2,hy,hc2⟩:=(HB.out.ext B3).at_ (k:=k) hlt
   obtain ⟨yw,ys,yf,yd⟩:=y
   have e1:wr.cell? ⟨b2,off2 + k * 11 + 1,none⟩ = some (.int .i64 ys):=hc2 1 _ rfl
   have e2:wr.cell? ⟨b2,off2 + k * 11 + 2,none⟩ = some (.int .i64 yf):=hc2 2 _ rfl
   have hn:=hitD_no.1 HIT.out _ (List.mem_of_getElem? hy)
   have s1b:(ys == js) = false:=by simpa using hn.1
   have s2b:(yf == jf) = false:=by simpa using hn.2
   have i1:(k:Int) < k0.jobs.length:=by omega
   clear hc2 hy hn
   go_wp2_with fail
   go_quiet (fail)
   go_wp2_with fail
   go_roundw
   case rel => exact ⟨k + 1,by omega,by go_num,zbl⟩
   case measure => simp [intOf];omega
  ·obtain rfl:k = k0.jobs.length:=by omega
   go_wp2_with fail
   refine (HO.out wr (HA.out.ext B3) (HB.out.ext B3)).mono ?_
   rintro e4 w4 ⟨A1,c1,A2,c2,rfl,o1,o2,hb4⟩
   have B4:=zbt B3 hb4
   replace kD:=kD.below_ hb4 kD.lt
   replace kJ:=kJ.below_ hb4 kJ.lt
   replace kT:=kT.below_ hb4 kT.lt
   have hs34:=hb4.size
   have zTr:=zT
   clear zD zJ zT j0 j1 j2 j3 j4 j5 j6 j7 j8 j9 j10 q0 q1 q2
   have zJ:=kJ.lt
   have zT:=kT.lt
   obtain ⟨j0,j1,j2,j3,j4,j5,j6,j7,j8,j9,j10⟩:=zc11 kJ
   obtain ⟨t0,t1,t2⟩:=zc3 kT
   obtain ⟨tf0,tf1,tf2,-⟩:=zf kT
   unfold dkV
   have hne:w.heap.size + 2 ≠ w4.heap.size:=by omega
   have H1:Hid ((k0.jobs ++ [(⟨jw,js,jf,⟨x0,x1,x2,x3,x4,x5,x6,x7⟩⟩:Jb)]).length = k0.jobs.length + 1):=by show _ = _;simp
   go_wp2_with (first | (at_builtin;refine wpList_appE jbE rfl (.tmp 69) (.tmp 71) _ rfl rfl _ wr.heap.size (by simp;omega) A2 c2 k0.jobs.length k0.jobs rfl (o2.ext zbl) (some ⟨w4.heap.size + 1,0,none⟩) 1 1 [⟨jw,js,jf,⟨x0,x1,x2,x3,x4,x5,x6,x7⟩⟩] rfl (SR.of_blk (E:=jbE) (l:=[⟨jw,js,jf,⟨x0,x1,x2,x3,x4,x5,x6,x7⟩⟩]) (t:=115) (Blk.new_ (by simp) rfl)) (by simp) (by simp;omega) rfl rfl ?_;rw [H1.out];intro A5 c5 w5 hO5 hb5 hk5 hs5;have k13:Blk w5 w4.heap.size 31 #[.slice A1 k0.cells.length c1,.slice A2 k0.jobs.length c2,.int .i64 k0.room]:=hk5.blk (Blk.alloc_ (Blk.new_ rfl rfl) _) (o2.not_ (.inr (Nat.le_refl _)));replace kT:=((kT.alloc_ _).alloc_ _).below_ hb5 (by omega);have zT5:=kT.lt;have z13:=k13.lt;clear t0 t1 t2 tf0 tf1 tf2;have t0:=kT.cell_ 0;have t1:=kT.cell_ 1;have t2:=kT.cell_ 2;have tf0:=kT.frozen_ 0;have tf1:=kT.frozen_ 1;have tf2:=kT.frozen_ 2;have u0:=k13.cell_ 0;have u1:=k13.cell_ 1;have u2:=k13.cell_ 2;have uf1:=k13.frozen_ 1;simp only [List.getElem?_toArray,List.getElem?_cons_zero,List.getElem?_cons_succ] at t0 t1 t2 u0 u1 u2))
   obtain ⟨W,hW⟩:∃ W,(((w5.setCell ⟨w4.heap.size,1,none⟩ (.slice A5 (k0.jobs.length + 1) c5)).setCell ⟨w.heap.size + 2,0,none⟩ (.slice A1 k0.cells.length c1)).setCell ⟨w.heap.size + 2,1,none⟩ (.slice A5 (k0.jobs.length + 1) c5)).setCell ⟨w.heap.size + 2,2,none⟩ (.int .i64 k0.room) = W:=⟨_,rfl⟩
   have o15:OwnE ctE w5 wr.heap.size A1 c1 k0.cells:=(o1.ext zbl).keptT (E:=ctE) (E':=jbE) (o2.ext zbl) (by decide) hk5
   have kS5:Blk (w5.setCell ⟨w4.heap.size,1,none⟩ (.slice A5 (k0.jobs.length + 1) c5)) (w.heap.size + 2) 31 #[.slice none 0 0,.slice none 0 0,.int .i64 0]:=kT.far_ (by exact hne) _
   have o1W:OwnE ctE W wr.heap.size A1 c1 k0.cells:=by rw [← hW];exact (((o15.farB k13 (by decide) 1 _).farB kS5 (by decide) 0 _).farB (kS5.set_ 0 _) (by decide) 1 _).farB ((kS5.set_ 0 _).set_ 1 _) (by decide) 2 _
   have o2W:OwnE jbE W wr.heap.size A5 c5 (k0.jobs ++ [⟨jw,js,jf,⟨x0,x1,x2,x3,x4,x5,x6,x7⟩⟩]):=by rw [← hW];exact (((hO5.farB k13 (by decide) 1 _).farB kS5 (by decide) 0 _).farB (kS5.set_ 0 _) (by decide) 1 _).farB ((kS5.set_ 0 _).set_ 1 _) (by decide) 2 _
   have kW:Blk W (w.heap.size + 2) 31 #[.slice A1 k0.cells.length c1,.slice A5 (k0.jobs.length + 1) c5,.int .i64 k0.room]:=by rw [← hW];exact ((kS5.set_ 0 _).set_ 1 _).set_ 2 _
   have B5:Below w.heap.size w w5:=((B4.alloc (by omega) _).alloc (by simp;omega) _).trans (hb5.mono (by omega))
   have bW:Below w.heap.size w W:=by rw [← hW];exact (((B5.setCell (p:=⟨w4.heap.size,1,none⟩) (by show w.heap.size ≤ w4.heap.size;omega) _).setCell (p:=⟨w.heap.size + 2,0,none⟩) (by show w.heap.size ≤ w.heap.size + 2;omega) _).setCell (p:=⟨w.heap.size + 2,1,none⟩) (by show w.heap.size ≤ w.heap.size + 2;omega) _).setCell (p:=⟨w.heap.size + 2,2,none⟩) (by show w.heap.size ≤ w.heap.size + 2;omega) _
   rw [hW]
   clear hW
   refine bodyPost_ret (by simp [results,Tryz.results118,go_sem,zc3 kW] <;> rfl) rfl ?_
   exact ⟨A1,c1,A5,c5,by simp [dkV],o1W.base_ (by omega),o2W.base_ (by omega),bW⟩
theorem rdWrite_any (A B:Option Addr) (c d:Nat) (k0:Dsk) (slot frame:Int) (x:Ct) (w:World) (ha:SR ctE w A k0.cells) (hb:SR jbE w B k0.jobs) (la:k0.cells.length ≤ 1000) (lb:k0.jobs.length ≤ 1000) (h0:(addD k0 ⟨true,slot,frame,x⟩).2 = 0) :
  Calls Tryz.prog 57 #[dkV A c B d k0,.int .i64 slot,.int .i64 frame,ctV x] w (DkPost (addD k0 ⟨true,slot,frame,x⟩) w):=by
 have H0:=Lib.hid h0
 clear h0
 have HA:=Lib.hid ha
 have HB:=Lib.hid hb
 obtain ⟨⟨RD,r2⟩,hR⟩:∃ R,addD k0 ⟨true,slot,frame,x⟩ = R:=⟨_,rfl⟩
 have HR:=Lib.hid hR
 rw [hR]
 obtain ⟨c0,c1_,c2_,c3,c4,c5_,c6,c7⟩:=x
 show Calls _ _ #[.agg #[.slice A k0.cells.length c,.slice B k0.jobs.length d,.int .i64 k0.room],.int .i64 slot,.int .i64 frame,.agg (zkk c0 c1_ c2_ c3 c4 c5_ c6 c7).toArray] _ _
 clear ha hb hR
 obtain ⟨X,hX⟩:∃ X,((w.alloc (.cells #[.slice A k0.cells.length c,.slice B k0.jobs.length d,.int .i64 k0.room] 31)).alloc (.cells (zkk c0 c1_ c2_ c3 c4 c5_ c6 c7).toArray 38)).alloc (.cells #[.slice none 0 0,.slice none 0 0,.int .i64 0] 31) = X:=⟨_,rfl⟩
 have kD:Blk X w.heap.size 31 #[.slice A k0.cells.length c,.slice B k0.jobs.length d,.int .i64 k0.room]:=by rw [← hX];exact zbk
 have kJ:Blk X (w.heap.size + 1) 38 (zkk c0 c1_ c2_ c3 c4 c5_ c6 c7).toArray:=by rw [← hX];exact (Blk.new_ (by simp) rfl:Blk _ (w.heap.size + 1) _ _).alloc_ _
 have kT:Blk X (w.heap.size + 2) 31 #[.slice none 0 0,.slice none 0 0,.int .i64 0]:=by rw [← hX];exact Blk.new_ (by simp) rfl
 have BX:Below w.heap.size w X:=by rw [← hX];exact zbl
 have hXs:X.heap.size = w.heap.size + 3:=by rw [← hX];simp
 have zX:w.heap.size + 2 < X.heap.size:=by omega
 obtain ⟨q0,q1,q2⟩:=zc3 kD
 obtain ⟨j0,j1,j2,j3,j4,j5,j6,j7⟩:=zc8 kJ
 have zD:=kD.lt
 have zJ:=kJ.lt
 go_enter Tryz.func57,Tryz.ntmps57
 go_wp2_with fail
 (try rw [hX])
 refine (rdAdd_any A B c d k0 ⟨true,slot,frame,⟨c0,c1_,c2_,c3,c4,c5_,c6,c7⟩⟩ X (HA.out.ext BX) (HB.out.ext BX) la lb H0.out).mono ?_
 rw [HR.out]
 rintro e1 w1 ⟨A1,d1,A2,d2,rfl,oa,ob,hb1⟩
 have B1:=zbt BX hb1
 replace kT:=kT.below_ hb1 kT.lt
 obtain ⟨n1,hn1⟩:∃ n,RD.cells.length = n:=⟨_,rfl⟩
 obtain ⟨n2,hn2⟩:∃ n,RD.jobs.length = n:=⟨_,rfl⟩
 obtain ⟨rm,hr2⟩:∃ n,RD.room = n:=⟨_,rfl⟩
 unfold dkV
 rw [hn1,hn2,hr2]
 have HN1:=Lib.hid hn1
 have HN2:=Lib.hid hn2
 have HN3:=Lib.hid hr2
 clear hn1 hn2 hr2 hb1 hX hXs
 clear q0 q1 q2 j0 j1 j2 j3 j4 j5 j6 j7
 have zT:=kT.lt
 obtain ⟨t0,t1,t2⟩:=zc3 kT
 obtain ⟨tf0,tf1,tf2,-⟩:=zf kT
 go_wp2_with fail
 obtain ⟨W,hW⟩:∃ W,World.setCell (World.setCell (World.setCell w1 ⟨w.heap.size + 2,0,none⟩ (.slice A1 n1 d1)) ⟨w.heap.size + 2,1,none⟩ (.slice A2 n2 d2)) ⟨w.heap.size + 2,2,none⟩ (.int .i64 rm) = W:=⟨_,rfl⟩
 have kW:Blk W (w.heap.size + 2) 31 #[.slice A1 n1 d1,.slice A2 n2 d2,.int .i64 rm]:=by rw [← hW];exact (Blk.set_ (Blk.set_ (Blk.set_ kT 0 _) 1 _) 2 _)
 have bW:Below w.heap.size w W:=by rw [← hW];exact ((B1.setCell (p:=⟨w.heap.size + 2,0,none⟩) (by show w.heap.size ≤ w.heap.size + 2;omega) _).setCell (p:=⟨w.heap.size + 2,1,none⟩) (by show w.heap.size ≤ w.heap.size + 2;omega) _).setCell (p:=⟨w.heap.size + 2,2,none⟩) (by show w.heap.size ≤ w.heap.size + 2;omega) _
 have oaW:OwnE ctE W X.heap.size A1 d1 RD.cells:=by rw [← hW];exact ((((oa.far (by exact zX) _).far (by exact zX) _).far (by exact zX) _))
 have obW:OwnE jbE W X.heap.size A2 d2 RD.jobs:=by rw [← hW];exact ((((ob.far (by exact zX) _).far (by exact zX) _).far (by exact zX) _))
 rw [hW]
 clear hW t0 t1 t2
 refine bodyPost_ret (by simp [results,Tryz.results111,go_sem,zc3 kW] <;> rfl) rfl ?_
 refine ⟨A1,d1,A2,d2,?_,oaW.base_ (by omega),obW.base_ (by omega),bW⟩
 simp only [dkV,HN1.out,HN2.out,HN3.out]
theorem rdRead_any (A B:Option Addr) (c d:Nat) (k0:Dsk) (slot frame:Int) (w:World) (ha:SR ctE w A k0.cells) (hb:SR jbE w B k0.jobs) (la:k0.cells.length ≤ 1000) (lb:k0.jobs.length ≤ 1000) (h0:(addD k0 ⟨false,slot,frame,.zero⟩).2 = 0) :
  Calls Tryz.prog 93 #[dkV A c B d k0,.int .i64 slot,.int .i64 frame] w (DkPost (addD k0 ⟨false,slot,frame,.zero⟩) w):=by
 have H0:=Lib.hid h0
 clear h0
 have HA:=Lib.hid ha
 have HB:=Lib.hid hb
 obtain ⟨⟨RD,r2⟩,hR⟩:∃ R,addD k0 ⟨false,slot,frame,.zero⟩ = R:=⟨_,rfl⟩
 have HR:=Lib.hid hR
 rw [hR]
 unfold dkV
 clear ha hb hR
 obtain ⟨X,hX⟩:∃ X,(w.alloc (.cells #[.slice A k0.cells.length c,.slice B k0.jobs.length d,.int .i64 k0.room] 31)).alloc (.cells #[.slice none 0 0,.slice none 0 0,.int .i64 0] 31) = X:=⟨_,rfl⟩
 have kD:Blk X w.heap.size 31 #[.slice A k0.cells.length c,.slice B k0.jobs.length d,.int .i64 k0.room]:=by rw [← hX];exact zbk
 have kT:=za2 hX
 have BX:Below w.heap.size w X:=by rw [← hX];exact zbl
 have hXs:X.heap.size = w.heap.size + 2:=by rw [← hX];simp
 have zX:w.heap.size + 1 < X.heap.size:=by omega
 obtain ⟨q0,q1,q2⟩:=zc3 kD
 have zD:=kD.lt
 go_enter Tryz.func93,Tryz.ntmps93
 go_wp2_with fail
 (try rw [hX])
 refine (rdAdd_any A B c d k0 ⟨false,slot,frame,.zero⟩ X (HA.out.ext BX) (HB.out.ext BX) la lb H0.out).mono ?_
 rw [HR.out]
 rintro e1 w1 ⟨A1,d1,A2,d2,rfl,oa,ob,hb1⟩
 have B1:=zbt BX hb1
 replace kT:=kT.below_ hb1 kT.lt
 obtain ⟨n1,hn1⟩:∃ n,RD.cells.length = n:=⟨_,rfl⟩
 obtain ⟨n2,hn2⟩:∃ n,RD.jobs.length = n:=⟨_,rfl⟩
 obtain ⟨rm,hr2⟩:∃ n,RD.room = n:=⟨_,rfl⟩
 unfold dkV
 rw [hn1,hn2,hr2]
 have HN1:=Lib.hid hn1
 have HN2:=Lib.hid hn2
 have HN3:=Lib.hid hr2
 clear hn1 hn2 hr2 hb1 hX hXs q0 q1 q2
 have zT:=kT.lt
 obtain ⟨t0,t1,t2⟩:=zc3 kT
 obtain ⟨tf0,tf1,tf2,-⟩:=zf kT
 go_wp2_with fail
 obtain ⟨W,hW⟩:∃ W,World.setCell (World.setCell (World.setCell w1 ⟨w.heap.size + 1,0,none⟩ (.slice A1 n1 d1)) ⟨w.heap.size + 1,1,none⟩ (.slice A2 n2 d2)) ⟨w.heap.size + 1,2,none⟩ (.int .i64 rm) = W:=⟨_,rfl⟩
 have kW:Blk W (w.heap.size + 1) 31 #[.slice A1 n1 d1,.slice A2 n2 d2,.int .i64 rm]:=by rw [← hW];exact (Blk.set_ (Blk.set_ (Blk.set_ kT 0 _) 1 _) 2 _)
 have bW:Below w.heap.size w W:=by rw [← hW];exact ((B1.setCell (p:=⟨w.heap.size + 1,0,none⟩) (by show w.heap.size ≤ w.heap.size + 1;omega) _).setCell (p:=⟨w.heap.size + 1,1,none⟩) (by show w.heap.size ≤ w.heap.size + 1;omega) _).setCell (p:=⟨w.heap.size + 1,2,none⟩) (by show w.heap.size ≤ w.heap.size + 1;omega) _
 have oaW:OwnE ctE W X.heap.size A1 d1 RD.cells:=by rw [← hW];exact ((((oa.far (by exact zX) _).far (by exact zX) _).far (by exact zX) _))
 have obW:OwnE jbE W X.heap.size A2 d2 RD.jobs:=by rw [← hW];exact ((((ob.far (by exact zX) _).far (by exact zX) _).far (by exact zX) _))
 rw [hW]
 clear hW t0 t1 t2
 refine bodyPost_ret (by simp [results,Tryz.results151,go_sem,zc3 kW] <;> rfl) rfl ?_
 refine ⟨A1,d1,A2,d2,?_,oaW.base_ (by omega),obW.base_ (by omega),bW⟩
 simp only [dkV,HN1.out,HN2.out,HN3.out]
end Go.Proofs.YthijbipidbjpfaaGreatDoor
