import Derived.Test.YthijbipidbjpfaaGreatDoorZP23
import Derived.Test.YthijbipidbjpfaaGreatDoorZP00
import Derived.Test.YthijbipidbjpfaaGreatDoorZP03
import Derived.Test.YthijbipidbjpfaaGreatDoorZP14
import Derived.Test.YthijbipidbjpfaaGreatDoorZP06
import Derived.Test.YthijbipidbjpfaaGreatDoorZP08
set_option linter.unusedSimpArgs false
set_option linter.unusedVariables false
set_option maxRecDepth 100000
set_option maxHeartbeats 8000000
namespace Go.Proofs.YthijbipidbjpfaaGreatDoor
open Go.RowKit Go.Maps
def StFk(s:Sts)(v:Value)(lo _:Nat)(w:World):Prop:=∃ A c B d,v=stV A c B d s∧OwnE intE w lo A c s.refs∧OwnE boolE w lo B d s.busy
theorem StFk.lasts(s:Sts):(Fk.has (StFk s)).lasts:=fun _ _ _ _ _ ⟨A,c,B,d,e,h1,h2⟩ hb=>⟨A,c,B,d,e,h1.ext hb,h2.ext hb⟩
def DkFk(k0:Dsk)(v:Value)(lo _:Nat)(w:World):Prop:=∃ A c B d,v=dkV A c B d k0∧OwnE ctE w lo A c k0.cells∧OwnE jbE w lo B d k0.jobs
theorem DkFk.lasts(k0:Dsk):(Fk.has (DkFk k0)).lasts:=fun _ _ _ _ _ ⟨A,c,B,d,e,h1,h2⟩ hb=>⟨A,c,B,d,e,h1.ext hb,h2.ext hb⟩
def PoFk(p:Pol)(v:Value)(lo _:Nat)(w:World):Prop:=∃ A c,v=poV A c p∧OwnE intE w lo A c p.free
theorem PoFk.lasts(p:Pol):(Fk.has (PoFk p)).lasts:=fun _ _ _ _ _ ⟨A,c,e,h1⟩ hb=>⟨A,c,e,h1.ext hb⟩
theorem kOwnPool_any(A:Option Addr)(c:Nat)(p:Pol)(w:World)(ha:SR intE w A p.free)(la:p.free.length≤1000) :
  Calls Tryz.prog 44 #[poV A c p] w fun e w'=>∃ A' c',e=.returned (poV A' c' p)∧OwnE intE w' w.heap.size A' c' p.free∧Below w.heap.size w w':=by
 have HA:=Lib.hid ha;clear ha;unfold poV;obtain⟨X,hX⟩:∃ X,(w.alloc (.cells #[.int .i64 p.size,.slice A p.free.length c] 33)).alloc (.cells #[.int .i64 0,.slice none 0 0] 33)=X:=⟨_,rfl⟩;have kX:=za1 hX;have kR:=za2 hX;have BX:Below w.heap.size w X:=by rw[←hX];exact zbl
 have zX:=kX.lt;have zR:=kR.lt;obtain⟨q0,q1⟩:=zc2 kX
 go_enter Tryz.func44,Tryz.ntmps44
 go_upto_region 1 with fail;(try rw[hX]);clear hX
 go_upto_region 2 with (at_builtin;refine wpList_appR intE rfl (.tmp 3) (.tmp 5) _ rfl rfl _ X.heap.size (by simp) (some ⟨X.heap.size,0,none⟩) 0 0 [] rfl (.inl ⟨rfl,SR.nil⟩) A c p.free.length p.free rfl ((HA.out.ext BX).ext ((Below.refl _ _).alloc (Nat.le_refl _) _)) (by simp;omega) rfl rfl ?_;intro b1 d1 w1 hc1 hb1 hm1;have kT:=(kX.alloc_ _).below_ hb1 zX;have kU:=(kR.alloc_ _).below_ hb1 zR;have zT:=kT.lt;have t1:w1.cell? ⟨w.heap.size,1,none⟩=some (.slice A p.free.length c):=(by simpa using kT.cell_ 1);have tf1:=kT.frozen_ 1)
 have hbb:Below X.heap.size X w1:=Below.trans ((Below.refl _ _).alloc (Nat.le_refl _) _) hb1;have o1:OwnE intE w1 X.heap.size b1 d1 p.free:=⟨hc1,hm1 (.inl rfl)⟩;obtain⟨X2,hX2⟩:∃ V,w1.setCell ⟨w.heap.size,1,none⟩ (.slice b1 p.free.length d1)=V:=⟨_,rfl⟩;have kS2:Blk X2 w.heap.size 33 #[.int .i64 p.size,.slice b1 p.free.length d1]:=by rw[←hX2];exact kT.set_ 1 _
 have kR2:Blk X2 (w.heap.size+1) 33 #[.int .i64 0,.slice none 0 0]:=by rw[←hX2];exact kU.far_ (by simp) _
 have BX2:Below w.heap.size w X2:=by rw[←hX2];exact(BX.trans (hbb.mono BX.size)).setCell (p:=⟨w.heap.size,1,none⟩) (Nat.le_refl _) _
 replace o1:OwnE intE X2 X.heap.size b1 d1 p.free:=by rw[←hX2];exact o1.far zX _
 rw[hX2];clear hX2 hb1 hbb hc1 hm1 kT kU t1 tf1 q0 q1;have zS2:=kS2.lt;obtain⟨y0,y1⟩:=zc2 kS2;obtain⟨t0,t1⟩:=zc2 kR2;obtain⟨tf0,tf1,-⟩:=zf kR2;go_wp2_with fail;obtain⟨W,hW⟩:∃ W,setN X2 (w.heap.size+1) 0 [.int .i64 p.size,.slice b1 p.free.length d1]=W:=⟨_,rfl⟩;have hWn:World.setCell (World.setCell X2 ⟨w.heap.size+1,0,none⟩ (.int .i64 p.size)) ⟨w.heap.size+1,1,none⟩ (.slice b1 p.free.length d1)=W:=hW;have kW:=zsw hW kR2;have bW:=zbw hW BX2 (by omega);have oW:OwnE intE W X.heap.size b1 d1 p.free:=by rw[←hW];exact o1.farN zR _
 rw[hWn];clear hWn hW t0 t1 tf0 tf1 y0 y1;refine bodyPost_ret (by simp[results,Tryz.results44,go_sem,zc2 kW] <;> rfl) rfl ?_;exact⟨b1,d1,rfl,oW.base_ (by omega),bW⟩
def SwPk(R:Swp)(w:World)(e:Ending)(w':World):Prop:=∃ L,e=.returned (swV L R)∧SwR w' L R∧Below w.heap.size w w'
theorem kOwnSwap_any(L:Lay)(s:Swp)(w:World)(h:SwR w L s)(hf:Few s):Calls Tryz.prog 13 #[swV L s] w (SwPk s w):=by
 obtain⟨a0,c0,a1,c1,a2,c2,a3,c3,a4,c4,a5,c5,a6,c6,a7,c7⟩:=L;have HS:=Lib.hid h;obtain⟨f0,f1,f2,f3,f4,f5,f6,f7⟩:=hf;clear h;unfold swV swC;obtain⟨X,hX⟩:∃ X,(w.alloc (.cells (zkx s a0 c0 a1 c1 a2 c2 a3 c3 a4 c4 a5 c5 a6 c6 a7 c7).toArray 35)).alloc (.cells zkz.toArray 35)=X:=⟨_,rfl⟩;have kX:=za1 hX;have kR:=za2 hX;have BX:Below w.heap.size w X:=by rw[←hX];exact zbl
 go_enter Tryz.func13,Tryz.ntmps13
 go_wp2_with fail;(try rw[hX]);clear hX;refine zrg [0,1,2,0,1,2,0,1,2,0,3,0,3,0,3] [[],[],[],[],[],[],[],[],[],[],[],[],[],[],[]] [.is ?_,.kn ?_,.has (StFk s.sl),.is ?_,.kn ?_,.has (DkFk s.dk),.is ?_,.kn ?_,.has (PoFk s.po),.is ?_,.late,.is ?_,.late,.is ?_,.late] [10,12,14] (lts_is (lts_kn (lts_has (StFk.lasts s.sl) (lts_is (lts_kn (lts_has (DkFk.lasts s.dk) (lts_is (lts_kn (lts_has (PoFk.lasts s.po) (lts_is (lts_late (lts_is (lts_late (lts_is (lts_late lts_nil))))))))))))))) (fun W0 hb0 hz0 => ?_)
 rotate_left 9
 have kW:=kX.below_ hb0 kX.lt;have zW:=kW.lt;have kR0:=kR.below_ hb0 kR.lt;have H0:=Lib.hid ((HS.out.r0.ext BX).ext hb0);have H1:=Lib.hid ((HS.out.r1.ext BX).ext hb0);have H5:=Lib.hid ((HS.out.r5.ext BX).ext hb0);have H6:=Lib.hid ((HS.out.r6.ext BX).ext hb0);have H7:=Lib.hid ((HS.out.r7.ext BX).ext hb0);obtain⟨p0,p1,p2,p3,p4,p5,p6,p7,p8,p9,p10⟩:=zc11 kW;refine zqp ?_;refine zqT (fun w hbw hd => ?_) ?_
 ·have r1:=cell_keep hbw p1 zW
  have r2:=cell_keep hbw p2 zW;exact zgs
 refine zqh (fun w hbw hd K Q' hK => ?_) (fun voa2 => ?_)
 ·clear hd
  go_simp;refine (kOwnSlots_any a0 a1 c0 c1 s.sl w (H0.out.ext hbw) (H1.out.ext hbw) (by omega) (by omega)).mono ?_;rintro e y ⟨A',c',B',d',rfl,ho,hp,hy⟩;go_wp2_with fail;exact hK.out (stV A' c' B' d' s.sl) _ _ zpt zbm ⟨A',c',B',d',rfl,ho,hp⟩
 refine zqp ?_;refine zqT (fun w hbw hd => ?_) ?_
 ·have r6:=cell_keep hbw p6 zW
  have r7:=cell_keep hbw p7 zW;have r8:=cell_keep hbw p8 zW;exact zgs
 refine zqh (fun w hbw hd K Q' hK => ?_) (fun voa5 => ?_)
 ·clear hd
  go_simp;refine (kOwnDisk_any a5 a6 c5 c6 s.dk w (H5.out.ext hbw) (H6.out.ext hbw) (by omega) (by omega)).mono ?_;rintro e y ⟨A',c',B',d',rfl,ho,hp,hy⟩;go_wp2_with fail;exact hK.out (dkV A' c' B' d' s.dk) _ _ zpt zbm ⟨A',c',B',d',rfl,ho,hp⟩
 refine zqp ?_;refine zqT (fun w hbw hd => ?_) ?_
 ·have r9:=cell_keep hbw p9 zW
  have r10:=cell_keep hbw p10 zW;exact zgs
 refine zqh (fun w hbw hd K Q' hK => ?_) (fun voa8 => ?_)
 ·clear hd
  go_simp;refine (kOwnPool_any a7 c7 s.po w (H7.out.ext hbw) (by omega)).mono ?_;rintro e y ⟨A',c',rfl,ho,hy⟩;go_wp2_with fail;exact hK.out (poV A' c' s.po) _ _ zpt zbm ⟨A',c',rfl,ho⟩
 refine zqp ?_;refine zql ?_;refine zqp ?_;refine zql ?_;refine zqp ?_;refine zql ?_;refine chn_end (fun wz lo hi hbz hd hR => ?_);obtain⟨b0,d0,b1,d1,rfl,o0,o1⟩:StFk s.sl voa2 (lo 2) (hi 2) wz:=hd 2 _ _ rfl rfl;obtain⟨b5,d5,b6,d6,rfl,o5,o6⟩:DkFk s.dk voa5 (lo 5) (hi 5) wz:=hd 5 _ _ rfl rfl;obtain⟨b7,d7,rfl,o7⟩:PoFk s.po voa8 (lo 8) (hi 8) wz:=hd 8 _ _ rfl rfl;unfold stV dkV poV;have r2:=(hR.2 2 _ rfl).1;have r5:=(hR.2 5 _ rfl).1;have r8:=(hR.2 8 _ rfl).1;have zX1:w.heap.size+1<W0.heap.size:=kR0.lt;have BZ:Below w.heap.size w wz:=BX.trans ((hb0.trans (hbz.mono hb0.size)).mono BX.size);have kZ:=kW.below_ hbz zW;have kRZ:=kR0.below_ hbz zX1;have zZ:=kZ.lt;clear hd hR p0 p1 p2 p3 p4 p5 p6 p7 p8 p9 p10;obtain⟨-,y1,y2,-,-,-,y6,y7,y8,y9,y10⟩:=zc11 kZ;obtain⟨-,yf1,yf2,-,-,-,yf6,yf7,yf8,yf9,yf10,-⟩:=zf kZ;refine late_cons (by kernel_rfl) (by simp only[zy5,zy6,zy7];rfl) (fun K Q' hK => ?_);go_simp;refine hK.out _ ?_;clear hK K Q';refine late_cons (by kernel_rfl) (by simp only[zy5,zy6,zy7];rfl) (fun K Q' hK => ?_);go_simp;refine hK.out _ ?_;clear hK K Q';refine late_cons (by kernel_rfl) (by simp only[zy5,zy6,zy7];rfl) (fun K Q' hK => ?_);go_simp;refine hK.out _ ?_;clear hK K Q';refine late_none ?_;obtain⟨X2,hX2⟩:∃ V,setN (setN (setN wz w.heap.size 1 [.slice b0 s.sl.refs.length d0,.slice b1 s.sl.busy.length d1]) w.heap.size 6 [.slice b5 s.dk.cells.length d5,.slice b6 s.dk.jobs.length d6,.int .i64 s.dk.room]) w.heap.size 9 [.int .i64 s.po.size,.slice b7 s.po.free.length d7]=V:=⟨_,rfl⟩;have hX2n:World.setCell (World.setCell (World.setCell (World.setCell (World.setCell (World.setCell (World.setCell wz ⟨w.heap.size,1,none⟩ (.slice b0 s.sl.refs.length d0)) ⟨w.heap.size,2,none⟩ (.slice b1 s.sl.busy.length d1)) ⟨w.heap.size,6,none⟩ (.slice b5 s.dk.cells.length d5)) ⟨w.heap.size,7,none⟩ (.slice b6 s.dk.jobs.length d6)) ⟨w.heap.size,8,none⟩ (.int .i64 s.dk.room)) ⟨w.heap.size,9,none⟩ (.int .i64 s.po.size)) ⟨w.heap.size,10,none⟩ (.slice b7 s.po.free.length d7)=X2:=hX2;have kS2:Blk X2 w.heap.size 35 (zkx s b0 d0 b1 d1 a2 c2 a3 c3 a4 c4 b5 d5 b6 d6 b7 d7).toArray:=by rw[←hX2];exact(Blk.set_ (Blk.set_ (Blk.set_ (Blk.set_ (Blk.set_ (Blk.set_ (Blk.set_ kZ 1 _) 2 _) 6 _) 7 _) 8 _) 9 _) 10 _)
 have kR2:Blk X2 (w.heap.size+1) 35 zkz.toArray:=by rw[←hX2];exact((kRZ.kept (grown_setN _ _ _ _) (by simp)).kept (grown_setN _ _ _ _) (by simp)).kept (grown_setN _ _ _ _) (by simp)
 have BX2:Below w.heap.size w X2:=by rw[←hX2];exact below_setN (below_setN (below_setN BZ (Nat.le_refl _) _) (Nat.le_refl _) _) (Nat.le_refl _) _
 replace o0:OwnE intE X2 (w.heap.size+2) b0 d0 s.sl.refs:=by rw[←hX2];exact(((o0.base_ (by omega)).farN (by omega) _).farN (by omega) _).farN (by omega) _
 replace o1:OwnE boolE X2 (w.heap.size+2) b1 d1 s.sl.busy:=by rw[←hX2];exact(((o1.base_ (by omega)).farN (by omega) _).farN (by omega) _).farN (by omega) _
 replace o5:OwnE ctE X2 (w.heap.size+2) b5 d5 s.dk.cells:=by rw[←hX2];exact(((o5.base_ (by omega)).farN (by omega) _).farN (by omega) _).farN (by omega) _
 replace o6:OwnE jbE X2 (w.heap.size+2) b6 d6 s.dk.jobs:=by rw[←hX2];exact(((o6.base_ (by omega)).farN (by omega) _).farN (by omega) _).farN (by omega) _
 replace o7:OwnE intE X2 (w.heap.size+2) b7 d7 s.po.free:=by rw[←hX2];exact(((o7.base_ (by omega)).farN (by omega) _).farN (by omega) _).farN (by omega) _
 rw[hX2n];clear hX2n hX2 kZ kRZ zZ y1 yf1 y2 yf2 y6 yf6 y7 yf7 y8 yf8 y9 yf9 y10 yf10;have zS2:=kS2.lt;have zR2:=kR2.lt;go_wp2_with fail;refine zrg [2,0,1,2,2,0,1,2,0,1,2,0,3,0,3,0,3] [[],[],[],[],[],[],[],[],[],[],[],[],[],[],[],[],[]] [.has (LitE),.is ?_,.kn ?_,.has (ClnF wrE s.wr s.wr.length),.has (LitE),.is ?_,.kn ?_,.has (ClnF rdE s.rd s.rd.length),.is ?_,.kn ?_,.has (ClnF intE s.desc s.desc.length),.is ?_,.late,.is ?_,.late,.is ?_,.late] [12,14,16] (lts_has (LitE.lasts) (lts_is (lts_kn (lts_has (ClnF.lasts wrE s.wr _) (lts_has (LitE.lasts) (lts_is (lts_kn (lts_has (ClnF.lasts rdE s.rd _) (lts_is (lts_kn (lts_has (ClnF.lasts intE s.desc _) (lts_is (lts_late (lts_is (lts_late (lts_is (lts_late lts_nil))))))))))))))))) (fun W0 hb0 hz0 => ?_)
 rotate_left 9
 have kW:=kS2.below_ hb0 kS2.lt;have zW:=kW.lt;have kR0:=kR2.below_ hb0 kR2.lt;have H2:=Lib.hid ((HS.out.r2.ext BX2).ext hb0);have H3:=Lib.hid ((HS.out.r3.ext BX2).ext hb0);have H4:=Lib.hid ((HS.out.r4.ext BX2).ext hb0);obtain⟨-,-,-,p3,p4,p5,-⟩:=zc11 kW;refine zqh (fun w hbw hd K Q' hK => ?_) (fun vob0 => ?_)
 ·clear hd
  go_simp;exact hK.out (.slice (some ⟨w.heap.size,0,none⟩) 0 0) _ _ zpt zbm ⟨_,rfl⟩
 refine zqp ?_;refine zqT (fun w hbw hd => ?_) ?_
 ·have q1:=cell_keep hbw p3 zW
  exact zgs
 refine zqh (fun w hbw hd K Q' hK => ?_) (fun vob3 => ?_)
 ·obtain⟨_,_,g,rfl⟩:∃ lo hi,LitE vob0 lo hi w:=hd 0 _ _ (by kernel_rfl) rfl rfl
  clear hd;refine step_appF wrE rfl (.tmp 15) (.tmp 17) _ rfl rfl w g a2 c2 s.wr.length s.wr rfl (H2.out.ext hbw) (by omega) rfl rfl ?_;intro A' c' y ho hy;exact hK.out (.slice A' s.wr.length c') _ _ zpt zbm ⟨A',c',rfl,ho⟩
 refine zqh (fun w hbw hd K Q' hK => ?_) (fun vob4 => ?_)
 ·clear hd
  go_simp;exact hK.out (.slice (some ⟨w.heap.size,0,none⟩) 0 0) _ _ zpt zbm ⟨_,rfl⟩
 refine zqp ?_;refine zqT (fun w hbw hd => ?_) ?_
 ·have q1:=cell_keep hbw p4 zW
  exact zgs
 refine zqh (fun w hbw hd K Q' hK => ?_) (fun vob7 => ?_)
 ·obtain⟨_,_,g,rfl⟩:∃ lo hi,LitE vob4 lo hi w:=hd 4 _ _ (by kernel_rfl) rfl rfl
  clear hd;refine step_appF rdE rfl (.tmp 19) (.tmp 21) _ rfl rfl w g a3 c3 s.rd.length s.rd rfl (H3.out.ext hbw) (by omega) rfl rfl ?_;intro A' c' y ho hy;exact hK.out (.slice A' s.rd.length c') _ _ zpt zbm ⟨A',c',rfl,ho⟩
 refine zqp ?_;refine zqT (fun w hbw hd => ?_) ?_
 ·have r5:=cell_keep hbw p5 zW
  exact zgs
 refine zqh (fun w hbw hd K Q' hK => ?_) (fun vob10 => ?_)
 ·clear hd
  go_simp;refine (kOwnInts_any a4 c4 s.desc w (H4.out.ext hbw) (by omega)).mono ?_;rintro e y ⟨A',c',rfl,ho,hy⟩;go_wp2_with fail;exact hK.out (.slice A' s.desc.length c') _ _ zpt zbm ⟨A',c',rfl,ho⟩
 refine zqp ?_;refine zql ?_;refine zqp ?_;refine zql ?_;refine zqp ?_;refine zql ?_;refine chn_end (fun wz lo hi hbz hd hR => ?_);obtain⟨b2,d2,rfl,o2⟩:ClnF wrE s.wr s.wr.length vob3 (lo 3) (hi 3) wz:=hd 3 _ _ rfl rfl;obtain⟨b3,d3,rfl,o3⟩:ClnF rdE s.rd s.rd.length vob7 (lo 7) (hi 7) wz:=hd 7 _ _ rfl rfl;obtain⟨b4,d4,rfl,o4⟩:ClnF intE s.desc s.desc.length vob10 (lo 10) (hi 10) wz:=hd 10 _ _ rfl rfl;have r3:=(hR.2 3 _ rfl).1;have r7:=(hR.2 7 _ rfl).1;have r10:=(hR.2 10 _ rfl).1;have zX1:w.heap.size+1<W0.heap.size:=kR0.lt;have hbA:=zbt hb0 hbz;have BZ:=zbt BX2 hbA;have kZ:=kW.below_ hbz zW;have kRZ:=kR0.below_ hbz zX1;have zZ:=kZ.lt;clear hd hR p3 p4 p5;obtain⟨-,-,-,y3,y4,y5,-⟩:=zc11 kZ;obtain⟨-,-,-,yf3,yf4,yf5,-⟩:=zf kZ;refine late_cons (by kernel_rfl) (by simp only[zy5,zy6,zy7];rfl) (fun K Q' hK => ?_);go_simp;refine hK.out _ ?_;clear hK K Q';refine late_cons (by kernel_rfl) (by simp only[zy5,zy6,zy7];rfl) (fun K Q' hK => ?_);go_simp;refine hK.out _ ?_;clear hK K Q';refine late_cons (by kernel_rfl) (by simp only[zy5,zy6,zy7];rfl) (fun K Q' hK => ?_);go_simp;refine hK.out _ ?_;clear hK K Q';refine late_none ?_;obtain⟨X3,hX3⟩:∃ V,setN wz w.heap.size 3 [.slice b2 s.wr.length d2,.slice b3 s.rd.length d3,.slice b4 s.desc.length d4]=V:=⟨_,rfl⟩;have hX3n:World.setCell (World.setCell (World.setCell wz ⟨w.heap.size,3,none⟩ (.slice b2 s.wr.length d2)) ⟨w.heap.size,4,none⟩ (.slice b3 s.rd.length d3)) ⟨w.heap.size,5,none⟩ (.slice b4 s.desc.length d4)=X3:=hX3;have kS3:Blk X3 w.heap.size 35 (zkx s b0 d0 b1 d1 b2 d2 b3 d3 b4 d4 b5 d5 b6 d6 b7 d7).toArray:=by rw[←hX3];exact(Blk.set_ (Blk.set_ (Blk.set_ kZ 3 _) 4 _) 5 _)
 have kR3:Blk X3 (w.heap.size+1) 35 zkz.toArray:=by rw[←hX3];exact kRZ.kept (grown_setN _ _ _ _) (by simp)
 have BX3:Below w.heap.size w X3:=by rw[←hX3];exact below_setN BZ (Nat.le_refl _) _
 replace o0:OwnE intE X3 (w.heap.size+2) b0 d0 s.sl.refs:=by rw[←hX3];exact(o0.ext hbA).farN (by omega) _
 replace o1:OwnE boolE X3 (w.heap.size+2) b1 d1 s.sl.busy:=by rw[←hX3];exact(o1.ext hbA).farN (by omega) _
 replace o5:OwnE ctE X3 (w.heap.size+2) b5 d5 s.dk.cells:=by rw[←hX3];exact(o5.ext hbA).farN (by omega) _
 replace o6:OwnE jbE X3 (w.heap.size+2) b6 d6 s.dk.jobs:=by rw[←hX3];exact(o6.ext hbA).farN (by omega) _
 replace o7:OwnE intE X3 (w.heap.size+2) b7 d7 s.po.free:=by rw[←hX3];exact(o7.ext hbA).farN (by omega) _
 replace o2:OwnE wrE X3 (w.heap.size+2) b2 d2 s.wr:=by rw[←hX3];exact(o2.base_ (by omega)).farN (by omega) _
 replace o3:OwnE rdE X3 (w.heap.size+2) b3 d3 s.rd:=by rw[←hX3];exact(o3.base_ (by omega)).farN (by omega) _
 replace o4:OwnE intE X3 (w.heap.size+2) b4 d4 s.desc:=by rw[←hX3];exact(o4.base_ (by omega)).farN (by omega) _
 rw[hX3n];clear hX3n hX3 kZ kRZ zZ y3 y4 y5 yf3 yf4 yf5;have zS3:=kS3.lt;obtain⟨y0,y1,y2,y3,y4,y5,y6,y7,y8,y9,y10⟩:=zc11 kS3;obtain⟨t0,t1,t2,t3,t4,t5,t6,t7,t8,t9,t10⟩:=zc11 kR3;obtain⟨tf0,tf1,tf2,tf3,tf4,tf5,tf6,tf7,tf8,tf9,tf10,-⟩:=zf kR3;go_wp2_with fail;obtain⟨W,hW⟩:∃ W,setN X3 (w.heap.size+1) 0 (zkx s b0 d0 b1 d1 b2 d2 b3 d3 b4 d4 b5 d5 b6 d6 b7 d7)=W:=⟨_,rfl⟩;have hWn:=zs11 hW;have kW:=zsw hW kR3;have bW:=zbw hW BX3 (by omega);have v0:OwnE intE W (w.heap.size+2) b0 d0 s.sl.refs:=by rw[←hW];exact o0.farN (by exact Nat.lt_succ_self _) _
 have v1:OwnE boolE W (w.heap.size+2) b1 d1 s.sl.busy:=by rw[←hW];exact o1.farN (by exact Nat.lt_succ_self _) _
 have v5:OwnE ctE W (w.heap.size+2) b5 d5 s.dk.cells:=by rw[←hW];exact o5.farN (by exact Nat.lt_succ_self _) _
 have v6:OwnE jbE W (w.heap.size+2) b6 d6 s.dk.jobs:=by rw[←hW];exact o6.farN (by exact Nat.lt_succ_self _) _
 have v7:OwnE intE W (w.heap.size+2) b7 d7 s.po.free:=by rw[←hW];exact o7.farN (by exact Nat.lt_succ_self _) _
 have v2:OwnE wrE W (w.heap.size+2) b2 d2 s.wr:=by rw[←hW];exact o2.farN (by exact Nat.lt_succ_self _) _
 have v3:OwnE rdE W (w.heap.size+2) b3 d3 s.rd:=by rw[←hW];exact o3.farN (by exact Nat.lt_succ_self _) _
 have v4:OwnE intE W (w.heap.size+2) b4 d4 s.desc:=by rw[←hW];exact o4.farN (by exact Nat.lt_succ_self _) _
 rw[hWn];clear hWn hW t0 tf0 y0 t1 tf1 y1 t2 tf2 y2 t3 tf3 y3 t4 tf4 y4 t5 tf5 y5 t6 tf6 y6 t7 tf7 y7 t8 tf8 y8 t9 tf9 y9 t10 tf10 y10;refine bodyPost_ret (by simp[results,Tryz.results13,go_sem,zc11 kW] <;> rfl) rfl ?_;exact⟨⟨b0,d0,b1,d1,b2,d2,b3,d3,b4,d4,b5,d5,b6,d6,b7,d7⟩,rfl,⟨v0.sr,v1.sr,v2.sr,v3.sr,v4.sr,v5.sr,v6.sr,v7.sr⟩,bW⟩
theorem rsRef_any(A B:Option Addr)(c d:Nat)(s:Sts)(n:Int)(w:World)(ha:SR intE w A s.refs)(hb:SR boolE w B s.busy)(hok:OkT s) :
  Calls Tryz.prog 86 #[stV A c B d s,.int .i64 n] w (StPost (addT s n).1 [.int .i64 (addT s n).2] w):=by
 obtain⟨Q,hQ⟩:∃ Q,addT s n=Q:=⟨_,rfl⟩;rw[hQ];have HQ:=Lib.hid hQ;clear hQ;have HA:=Lib.hid ha;have HB:=Lib.hid hb;have HOK:=Lib.hid hok;obtain⟨l1,l2⟩:=hok.len;have HBL:=Lib.hid hok.blen;obtain⟨z,hz⟩:∃ z,askT s n=z:=⟨_,rfl⟩;have HZ:=Lib.hid hz
 have hC:=fun W h=>rsAsked_any A B c d s n W h hok
 rw[hz] at hC;have HC:=Lib.hid hC;clear ha hb hC hz hok
 by_cases z0:z=0
 ·subst z0
  have hn:=(askT_zero HOK.out).1 HZ.out;obtain⟨k,rfl⟩:∃ k:Nat,n=k:=⟨n.toNat,by omega⟩;have hk:k<s.refs.length:=by omega
  clear hn;obtain⟨b1,o1,x1,rfl,hl1,hx1,hc1⟩:=HA.out.at_ hk;obtain⟨b2,o2,x2,rfl,hl2,hx2,hc2⟩:=HB.out.at_ (k:=k) (by have:=HBL.out;omega);have HR:Hid (refT s k=x1):=by show _=_;unfold refT;rw[List.getD_eq_getElem?_getD,hx1];rfl
  have HX2:Hid (bsyT s k=x2):=by show _=_;unfold bsyT;rw[List.getD_eq_getElem?_getD,hx2];rfl
  have HRG:Hid (0≤x1∧x1≤512):=HOK.out.range x1 (List.mem_of_getElem? hx1);have HC1:Hid (w.cell? ⟨b1,o1+k,none⟩=some (.int .i64 x1)):=by show _=_;simpa [show intE.sz=1 from rfl] using hc1 0 (.int .i64 x1) rfl
  have HC2:Hid (w.cell? ⟨b2,o2+k,none⟩=some (.bool x2)):=by show _=_;simpa [show boolE.sz=1 from rfl] using hc2 0 (.bool x2) rfl
  have i1:(k:Int)<s.refs.length:=by omega
  have i2:(k:Int)<s.busy.length:=by have:=HBL.out;omega
  clear hx1 hx2 hc1 hc2
  have HQ2:Hid (Q=if freT s k then (.zero,9) else if 512≤x1 then (.zero,15) else (witT s k (x1+1) x2,0)):=by
   show _=_;rw[←HQ.out];unfold addT;rw[HZ.out,if_neg (by simp),Int.toNat_natCast,HR.out,HX2.out]
  obtain⟨fb,hfb⟩:∃ fb,freT s k=fb:=⟨_,rfl⟩
  have hFR:=fun W h1 h2=>rsFree_any (some ⟨b1,o1,none⟩) (some ⟨b2,o2,none⟩) c d s k W h1 h2 hk HBL.out
  rw[hfb] at hFR HQ2;have HFR:=Lib.hid hFR;unfold stV at HFR;clear hfb hFR;unfold stV at HC ⊢;obtain⟨X,hX⟩:∃ X,(w.alloc (.cells #[.slice (some ⟨b1,o1,none⟩) s.refs.length c,.slice (some ⟨b2,o2,none⟩) s.busy.length d] 25)).alloc (.cells #[.slice none 0 0,.slice none 0 0] 25)=X:=⟨_,rfl⟩;have kX:=za1 hX;have kR:=za2 hX;have BX:Below w.heap.size w X:=by rw[←hX];exact zbl
  have zX:=kX.lt;have zR:=kR.lt;obtain⟨q0,q1⟩:=zc2 kX
  go_enter Tryz.func86,Tryz.ntmps86
  go_wp2_with fail;(try rw[hX]);clear hX;refine (HC.out X (HA.out.ext BX)).mono ?_;rintro e1 w1 ⟨rfl,hb1⟩;have B1:=BX.trans (hb1.mono BX.size);replace kX:=kX.below_ hb1 zX;replace kR:=kR.below_ hb1 zR;clear zX zR hb1 q0 q1;have zX:=kX.lt;have zR:=kR.lt;obtain⟨q0,q1⟩:=zc2 kX;go_wp2_with fail;refine (HFR.out w1 (HA.out.ext B1) (HB.out.ext B1)).mono ?_;rintro e2 w2 ⟨rfl,hb2⟩;have B2:=B1.trans (hb2.mono B1.size);replace kX:=kX.below_ hb2 zX;replace kR:=kR.below_ hb2 zR;clear zX zR hb2 q0 q1;have zX:=kX.lt;have zR:=kR.lt;obtain⟨q0,q1⟩:=zc2 kX;have c1:=cell_keep B2 HC1.out hl1;have c2:=cell_keep B2 HC2.out hl2;have zb:b1<w2.heap.size:=Nat.lt_of_lt_of_le hl1 B2.size;have zb2:b2<w2.heap.size:=Nat.lt_of_lt_of_le hl2 B2.size
  cases fb with
  | true=>
   have HE:Hid (Q=(.zero,9)):=by show _=_;rw[HQ2.out,if_pos rfl]
   obtain⟨t0,t1⟩:=zc2 kR;obtain⟨tf0,tf1,-⟩:=zf kR;go_wp2_with fail;obtain⟨W,hW⟩:∃ W,setN w2 (w.heap.size+1) 0 [.slice none 0 0,.slice none 0 0]=W:=⟨_,rfl⟩;have hWn:World.setCell (World.setCell w2 ⟨w.heap.size+1,0,none⟩ (.slice none 0 0)) ⟨w.heap.size+1,1,none⟩ (.slice none 0 0)=W:=hW;have kW:=zsw hW kR;have bW:=zbw hW B2 (by omega);rw[hWn];clear hWn hW t0 t1 tf0 tf1;refine bodyPost_ret (by simp[results,Tryz.results86,go_sem,zc2 kW] <;> rfl) rfl ?_;rw[HE.out];exact StPost.zero bW
  | false=>
   by_cases x5:x1=512
   ·have HE:Hid (Q=(.zero,15)):=by show _=_;rw[HQ2.out,if_neg (by simp),if_pos (by omega)]
    have x5b:(x1 == 512)=true:=by simpa using x5
    clear x5;obtain⟨t0,t1⟩:=zc2 kR;obtain⟨tf0,tf1,-⟩:=zf kR;go_wp2_with fail;obtain⟨W,hW⟩:∃ W,setN w2 (w.heap.size+1) 0 [.slice none 0 0,.slice none 0 0]=W:=⟨_,rfl⟩;have hWn:World.setCell (World.setCell w2 ⟨w.heap.size+1,0,none⟩ (.slice none 0 0)) ⟨w.heap.size+1,1,none⟩ (.slice none 0 0)=W:=hW;have kW:=zsw hW kR;have bW:=zbw hW B2 (by omega);rw[hWn];clear hWn hW t0 t1 tf0 tf1;refine bodyPost_ret (by simp[results,Tryz.results86,go_sem,zc2 kW] <;> rfl) rfl ?_;rw[HE.out];exact StPost.zero bW
   ·have hrg:=HRG.out
    obtain⟨T,hT⟩:∃ T,witT s k (x1+1) x2=T:=⟨_,rfl⟩;have HT:=Lib.hid hT
    have hW:=fun W h1 h2=>rsWith_any (some ⟨b1,o1,none⟩) (some ⟨b2,o2,none⟩) c d s k (x1+1) x2 W h1 h2 (by omega) HBL.out hk
    rw[hT] at hW;have HW:=Lib.hid hW;unfold stV at HW;have hT1:T.refs.length=s.refs.length:=by rw[←hT];simp[witT]
    have hT2:T.busy.length=T.refs.length:=by rw[←hT];have:=HBL.out;simp[witT,this]
    have HT1:=Lib.hid hT1;have HT2:=Lib.hid hT2;clear hT hW hT1 hT2;have HE:Hid (Q=(T,0)):=by show _=_;rw[HQ2.out,if_neg (by simp),if_neg (by omega),HT.out]
    have x5b:(x1 == 512)=false:=by simpa using x5
    have hw:IntKind.i64.wrap (x1+1)=x1+1:=IntWalk.i64_in _ (by omega);have BW:=B2;clear x5 hrg;go_upto_region 8 with fail;refine zrg [1,0,0,1,0,0,1,0,0,1,0,0,1,2,3,0] [[],[],[],[],[],[],[],[],[],[],[],[],[],[],[],[]] [.kn ?_,.is ?_,.is ?_,.kn ?_,.is ?_,.is ?_,.kn ?_,.is (.int .i64 (x1+1)),.is ?_,.kn ?_,.is ?_,.is ?_,.kn ?_,.has (StFk T),.late,.is ?_] [14] (lts_kn (lts_is (lts_is (lts_kn (lts_is (lts_is (lts_kn (lts_is (lts_is (lts_kn (lts_is (lts_is (lts_kn (lts_has (StFk.lasts T) (lts_late (lts_is lts_nil)))))))))))))))) (fun W0 hb0 hz0 => ?_)
    rotate_left 13
    have kW:=kX.below_ hb0 kX.lt;have kR0:=kR.below_ hb0 kR.lt;have zW:=kW.lt;have u1:=cell_keep hb0 c1 zb;have u2:=cell_keep hb0 c2 zb2;have zu1:=Nat.lt_of_lt_of_le zb hb0.size;have zu2:=Nat.lt_of_lt_of_le zb2 hb0.size;obtain⟨p0,p1⟩:=zc2 kW;refine zqT (fun w hbw hd => ?_) ?_
    ·have r0:=cell_keep hbw p0 zW
     have r1:=cell_keep hbw p1 zW;exact zgs
    refine zqp ?_;refine zqp ?_;refine zqT (fun w hbw hd => ?_) ?_
    ·have q1:=cell_keep hbw p0 zW
     exact zgs
    refine zqp ?_;refine zqp ?_;refine zqT (fun w hbw hd => ?_) ?_
    ·have q1:=cell_keep hbw u1 zu1
     exact zgs
    refine zqP (fun w => ?_) ?_
    ·go_simp
     first | done | rfl
    refine zqp ?_;refine zqT (fun w hbw hd => ?_) ?_
    ·have q1:=cell_keep hbw p1 zW
     exact zgs
    refine zqp ?_;refine zqp ?_;refine zqT (fun w hbw hd => ?_) ?_
    ·have q1:=cell_keep hbw u2 zu2
     exact zgs
    refine zqh (fun w hbw hd K Q' hK => ?_) (fun vrf13 => ?_)
    ·clear hd
     go_simp;refine (HW.out w (HA.out.ext (BW.trans ((hb0.trans (hbw.mono hb0.size)).mono BW.size))) (HB.out.ext (BW.trans ((hb0.trans (hbw.mono hb0.size)).mono BW.size)))).mono ?_;rintro e y ⟨A',c',B',d',rfl,ho,hp,hy⟩;go_wp2_with fail;exact hK.out (stV A' c' B' d' T) _ _ zpt zbm ⟨A',c',B',d',rfl,ho,hp⟩
    refine zql ?_;refine zqp ?_;refine chn_end (fun wz lo hi hbz hd hR => ?_);obtain⟨A1,d1,A2,d2,rfl,o1,o2⟩:StFk T vrf13 (lo 13) (hi 13) wz:=hd 13 _ _ rfl rfl;have r9:=(hR.2 13 _ rfl).1;have zX1:w.heap.size+1<W0.heap.size:=kR0.lt;have BZ:Below w.heap.size w wz:=BW.trans ((hb0.trans (hbz.mono hb0.size)).mono BW.size);have kRz:=kR0.below_ hbz kR0.lt;unfold stV;clear hd hR p0 p1 u1 u2;have zR9:=kRz.lt;obtain⟨t0,t1⟩:=zc2 kRz;obtain⟨tf0,tf1,-⟩:=zf kRz;refine late_one (by simp only[zy5,zy6,zy7];rfl) (fun K Q' hK => ?_);go_simp;refine hK.out _ ?_;clear hK K Q';go_wp2_with fail;obtain⟨W,hW⟩:∃ W,setN wz (w.heap.size+1) 0 [.slice A1 T.refs.length d1,.slice A2 T.busy.length d2]=W:=⟨_,rfl⟩;have hWn:World.setCell (World.setCell wz ⟨w.heap.size+1,0,none⟩ (.slice A1 T.refs.length d1)) ⟨w.heap.size+1,1,none⟩ (.slice A2 T.busy.length d2)=W:=hW;have kW:=zsw hW kRz;have bW:=zbw hW BZ (by omega);have o1W:OwnE intE W (w.heap.size+2) A1 d1 T.refs:=by rw[←hW];exact(o1.base_ (by omega)).farN (by exact Nat.lt_succ_self _) _
    have o2W:OwnE boolE W (w.heap.size+2) A2 d2 T.busy:=by rw[←hW];exact(o2.base_ (by omega)).farN (by exact Nat.lt_succ_self _) _
    rw[hWn];clear hWn hW t0 t1 tf0 tf1;refine bodyPost_ret (by simp[results,Tryz.results86,go_sem,zc2 kW] <;> rfl) rfl ?_;rw[HE.out];exact⟨A1,d1,A2,d2,rfl,o1W.base_ (by omega),o2W.base_ (by omega),bW⟩
 ·have HE:Hid (Q=(.zero,z)):=by show _=_;rw[←HQ.out];unfold addT;rw[HZ.out,if_pos z0]
  have zb:(z != 0)=true:=by simpa using z0
  clear z0;unfold stV at HC ⊢;obtain⟨X,hX⟩:∃ X,(w.alloc (.cells #[.slice A s.refs.length c,.slice B s.busy.length d] 25)).alloc (.cells #[.slice none 0 0,.slice none 0 0] 25)=X:=⟨_,rfl⟩;have kX:=za1 hX;have kR:=za2 hX;have BX:Below w.heap.size w X:=by rw[←hX];exact zbl
  have zX:=kX.lt;have zR:=kR.lt;obtain⟨q0,q1⟩:=zc2 kX
  go_enter Tryz.func86,Tryz.ntmps86
  go_wp2_with fail;(try rw[hX]);clear hX;refine (HC.out X (HA.out.ext BX)).mono ?_;rintro e1 w1 ⟨rfl,hb1⟩;have B1:=BX.trans (hb1.mono BX.size);replace kX:=kX.below_ hb1 zX;replace kR:=kR.below_ hb1 zR;clear zX zR hb1 q0 q1;have zX:=kX.lt;have zR:=kR.lt;obtain⟨q0,q1⟩:=zc2 kX;obtain⟨t0,t1⟩:=zc2 kR;obtain⟨tf0,tf1,-⟩:=zf kR;go_wp2_with fail;obtain⟨W,hW⟩:∃ W,setN w1 (w.heap.size+1) 0 [.slice none 0 0,.slice none 0 0]=W:=⟨_,rfl⟩;have hWn:World.setCell (World.setCell w1 ⟨w.heap.size+1,0,none⟩ (.slice none 0 0)) ⟨w.heap.size+1,1,none⟩ (.slice none 0 0)=W:=hW;have kW:=zsw hW kR;have bW:=zbw hW B1 (by omega);rw[hWn];clear hWn hW t0 t1 tf0 tf1;refine bodyPost_ret (by simp[results,Tryz.results86,go_sem,zc2 kW] <;> rfl) rfl ?_;rw[HE.out];exact StPost.zero bW
theorem rsUnref_any(A B:Option Addr)(c d:Nat)(s:Sts)(n:Int)(w:World)(ha:SR intE w A s.refs)(hb:SR boolE w B s.busy)(hok:OkT s) :
  Calls Tryz.prog 84 #[stV A c B d s,.int .i64 n] w (StPost (unrT s n).1 [.bool (unrT s n).2.1,.int .i64 (unrT s n).2.2] w):=by
 obtain⟨Q,hQ⟩:∃ Q,unrT s n=Q:=⟨_,rfl⟩;rw[hQ];have HQ:=Lib.hid hQ;clear hQ;have HA:=Lib.hid ha;have HB:=Lib.hid hb;have HOK:=Lib.hid hok;obtain⟨l1,l2⟩:=hok.len;have HBL:=Lib.hid hok.blen;obtain⟨z,hz⟩:∃ z,askT s n=z:=⟨_,rfl⟩;have HZ:=Lib.hid hz
 have hC:=fun W h=>rsAsked_any A B c d s n W h hok
 rw[hz] at hC;have HC:=Lib.hid hC;clear ha hb hC hz hok
 by_cases z0:z=0
 ·subst z0
  have hn:=(askT_zero HOK.out).1 HZ.out;obtain⟨k,rfl⟩:∃ k:Nat,n=k:=⟨n.toNat,by omega⟩;have hk:k<s.refs.length:=by omega
  clear hn;obtain⟨b1,o1,x1,rfl,hl1,hx1,hc1⟩:=HA.out.at_ hk;obtain⟨b2,o2,x2,rfl,hl2,hx2,hc2⟩:=HB.out.at_ (k:=k) (by have:=HBL.out;omega);have HR:Hid (refT s k=x1):=by show _=_;unfold refT;rw[List.getD_eq_getElem?_getD,hx1];rfl
  have HX2:Hid (bsyT s k=x2):=by show _=_;unfold bsyT;rw[List.getD_eq_getElem?_getD,hx2];rfl
  have HRG:Hid (0≤x1∧x1≤512):=HOK.out.range x1 (List.mem_of_getElem? hx1);have HC1:Hid (w.cell? ⟨b1,o1+k,none⟩=some (.int .i64 x1)):=by show _=_;simpa [show intE.sz=1 from rfl] using hc1 0 (.int .i64 x1) rfl
  have HC2:Hid (w.cell? ⟨b2,o2+k,none⟩=some (.bool x2)):=by show _=_;simpa [show boolE.sz=1 from rfl] using hc2 0 (.bool x2) rfl
  have i1:(k:Int)<s.refs.length:=by omega
  have i2:(k:Int)<s.busy.length:=by have:=HBL.out;omega
  clear hx1 hx2 hc1 hc2
  have HQ2:Hid (Q=if x1=0 then (.zero,false,15) else (witT s k (x1 - 1) x2,freT (witT s k (x1 - 1) x2) k,0)):=by
   show _=_;rw[←HQ.out];unfold unrT;rw[HZ.out,if_neg (by simp),Int.toNat_natCast,HR.out,HX2.out]
  unfold stV at HC ⊢;obtain⟨X,hX⟩:∃ X,(w.alloc (.cells #[.slice (some ⟨b1,o1,none⟩) s.refs.length c,.slice (some ⟨b2,o2,none⟩) s.busy.length d] 25)).alloc (.cells #[.slice none 0 0,.slice none 0 0] 25)=X:=⟨_,rfl⟩;have kX:=za1 hX;have kR:=za2 hX;have BX:Below w.heap.size w X:=by rw[←hX];exact zbl
  have zX:=kX.lt;have zR:=kR.lt;obtain⟨q0,q1⟩:=zc2 kX
  go_enter Tryz.func84,Tryz.ntmps84
  go_wp2_with fail;(try rw[hX]);clear hX;refine (HC.out X (HA.out.ext BX)).mono ?_;rintro e1 w1 ⟨rfl,hb1⟩;have B1:=BX.trans (hb1.mono BX.size);replace kX:=kX.below_ hb1 zX;replace kR:=kR.below_ hb1 zR;clear zX zR hb1 q0 q1;have zX:=kX.lt;have zR:=kR.lt;obtain⟨q0,q1⟩:=zc2 kX;have c1:=cell_keep B1 HC1.out hl1;have c2:=cell_keep B1 HC2.out hl2;have zb:b1<w1.heap.size:=Nat.lt_of_lt_of_le hl1 B1.size;have zb2:b2<w1.heap.size:=Nat.lt_of_lt_of_le hl2 B1.size
  by_cases x5:x1=0
  ·have HE:Hid (Q=(.zero,false,15)):=by show _=_;rw[HQ2.out,if_pos x5]
   have x5b:(x1 == 0)=true:=by simpa using x5
   clear x5;obtain⟨t0,t1⟩:=zc2 kR;obtain⟨tf0,tf1,-⟩:=zf kR;go_wp2_with fail;obtain⟨W,hW⟩:∃ W,setN w1 (w.heap.size+1) 0 [.slice none 0 0,.slice none 0 0]=W:=⟨_,rfl⟩;have hWn:World.setCell (World.setCell w1 ⟨w.heap.size+1,0,none⟩ (.slice none 0 0)) ⟨w.heap.size+1,1,none⟩ (.slice none 0 0)=W:=hW;have kW:=zsw hW kR;have bW:=zbw hW B1 (by omega);rw[hWn];clear hWn hW t0 t1 tf0 tf1;refine bodyPost_ret (by simp[results,Tryz.results84,go_sem,zc2 kW] <;> rfl) rfl ?_;rw[HE.out];exact StPost.zero bW
  ·have hrg:=HRG.out
   obtain⟨T,hT⟩:∃ T,witT s k (x1 - 1) x2=T:=⟨_,rfl⟩;have HT:=Lib.hid hT
   have hW:=fun W h1 h2=>rsWith_any (some ⟨b1,o1,none⟩) (some ⟨b2,o2,none⟩) c d s k (x1 - 1) x2 W h1 h2 (by omega) HBL.out hk
   rw[hT] at hW;have HW:=Lib.hid hW;unfold stV at HW;have hT1:T.refs.length=s.refs.length:=by rw[←hT];simp[witT]
   have hT2:T.busy.length=T.refs.length:=by rw[←hT];have:=HBL.out;simp[witT,this]
   have HT1:=Lib.hid hT1;have HT2:=Lib.hid hT2;clear hT hW hT1 hT2;obtain⟨fb,hfb⟩:∃ fb,freT T k=fb:=⟨_,rfl⟩;have HFB:=Lib.hid hfb
   have hFR:=fun A1 A2 d1 d2 W h1 h2=>rsFree_any A1 A2 d1 d2 T k W h1 h2 (by have:=HT1.out;omega) HT2.out
   rw[hfb] at hFR;have HFR:=Lib.hid hFR;unfold stV at HFR;clear hfb hFR;have HE:Hid (Q=(T,fb,0)):=by show _=_;rw[HQ2.out,if_neg x5,HT.out,HFB.out]
   have x5b:(x1 == 0)=false:=by simpa using x5
   have hw:IntKind.i64.wrap (x1 - 1)=x1 - 1:=IntWalk.i64_in _ (by omega);have BW:=B1;clear x5 hrg;go_upto_region 6 with fail;refine zrg [1,0,0,1,0,0,1,0,0,1,0,0,1,2,2,3] [[],[],[],[],[],[],[],[],[],[],[],[],[],[],[],[]] [.kn ?_,.is ?_,.is ?_,.kn ?_,.is ?_,.is ?_,.kn ?_,.is (.int .i64 (x1 - 1)),.is ?_,.kn ?_,.is ?_,.is ?_,.kn ?_,.has (StFk T),.has (VarN 25 [.slice none 0 0,.slice none 0 0]),.late] [15] (lts_kn (lts_is (lts_is (lts_kn (lts_is (lts_is (lts_kn (lts_is (lts_is (lts_kn (lts_is (lts_is (lts_kn (lts_has (StFk.lasts T) (lts_has (VarN.lasts 25 [.slice none 0 0,.slice none 0 0]) (lts_late lts_nil)))))))))))))))) (fun W0 hb0 hz0 => ?_)
   rotate_left 12
   have kW:=kX.below_ hb0 kX.lt;have kR0:=kR.below_ hb0 kR.lt;have zW:=kW.lt;have u1:=cell_keep hb0 c1 zb;have u2:=cell_keep hb0 c2 zb2;have zu1:=Nat.lt_of_lt_of_le zb hb0.size;have zu2:=Nat.lt_of_lt_of_le zb2 hb0.size;obtain⟨p0,p1⟩:=zc2 kW;refine zqT (fun w hbw hd => ?_) ?_
   ·have r0:=cell_keep hbw p0 zW
    have r1:=cell_keep hbw p1 zW;exact zgs
   refine zqp ?_;refine zqp ?_;refine zqT (fun w hbw hd => ?_) ?_
   ·have q1:=cell_keep hbw p0 zW
    exact zgs
   refine zqp ?_;refine zqp ?_;refine zqT (fun w hbw hd => ?_) ?_
   ·have q1:=cell_keep hbw u1 zu1
    exact zgs
   refine zqP (fun w => ?_) ?_
   ·go_simp
    first | done | rfl
   refine zqp ?_;refine zqT (fun w hbw hd => ?_) ?_
   ·have q1:=cell_keep hbw p1 zW
    exact zgs
   refine zqp ?_;refine zqp ?_;refine zqT (fun w hbw hd => ?_) ?_
   ·have q1:=cell_keep hbw u2 zu2
    exact zgs
   refine zqh (fun w hbw hd K Q' hK => ?_) (fun vun13 => ?_)
   ·clear hd
    go_simp;refine (HW.out w (HA.out.ext (BW.trans ((hb0.trans (hbw.mono hb0.size)).mono BW.size))) (HB.out.ext (BW.trans ((hb0.trans (hbw.mono hb0.size)).mono BW.size)))).mono ?_;rintro e y ⟨A',c',B',d',rfl,ho,hp,hy⟩;go_wp2_with fail;exact hK.out (stV A' c' B' d' T) _ _ zpt zbm ⟨A',c',B',d',rfl,ho,hp⟩
   refine zqh (fun w hbw hd K Q' hK => ?_) (fun vun14 => ?_)
   ·clear hd
    go_simp;exact hK.out (.pointer (some ⟨w.heap.size,0,none⟩)) _ _ zpt zbm ⟨_,rfl,Blk.new_ rfl rfl,Nat.le_refl _,by simp⟩
   refine zql ?_;refine chn_end (fun wz lo hi hbz hd hR => ?_);obtain⟨A1,d1,A2,d2,rfl,o1,o2⟩:StFk T vun13 (lo 13) (hi 13) wz:=hd 13 _ _ rfl rfl;have r9:=(hR.2 13 _ rfl).1;have zX1:w.heap.size+1<W0.heap.size:=kR0.lt;have BZ:Below w.heap.size w wz:=BW.trans ((hb0.trans (hbz.mono hb0.size)).mono BW.size);have kRz:=kR0.below_ hbz kR0.lt;unfold stV;obtain⟨G,rfl,kG,hlo,hhi⟩:VarN 25 [.slice none 0 0,.slice none 0 0] vun14 (lo 14) (hi 14) wz:=hd 14 _ _ rfl rfl;have r10:=(hR.2 14 _ rfl).1;have zGl:W0.heap.size≤G:=by omega
   have zG:=kG.lt;clear hd hR p0 p1 u1 u2;have y0:=zc kG 0;have y1:=zc kG 1;obtain⟨yf0,yf1,-⟩:=zf kG;refine late_one (by simp only[zy5,zy6,zy7];rfl) (fun K Q' hK => ?_);go_simp;refine hK.out _ ?_;clear hK K Q';obtain⟨V,hV⟩:∃ V,(wz.setCell ⟨G,0,none⟩ (.slice A1 T.refs.length d1)).setCell ⟨G,1,none⟩ (.slice A2 T.busy.length d2)=V:=⟨_,rfl⟩;have kV:Blk V G 25 #[.slice A1 T.refs.length d1,.slice A2 T.busy.length d2]:=by rw[←hV];exact(kG.set_ 0 _).set_ 1 _
   have kRV:Blk V (w.heap.size+1) 25 #[.slice none 0 0,.slice none 0 0]:=by rw[←hV];exact(kRz.far_ (by show w.heap.size+1≠G;omega) _).far_ (by show w.heap.size+1≠G;omega) _
   have BV:Below w.heap.size w V:=by rw[←hV];exact(BZ.setCell (p:=⟨G,0,none⟩) (by show w.heap.size≤G;omega) _).setCell (p:=⟨G,1,none⟩) (by show w.heap.size≤G;omega) _
   have h1V:OwnE intE V W0.heap.size A1 d1 T.refs:=by rw[←hV];exact((o1.base_ r9).farB kG (by decide) 0 _).farB (kG.set_ 0 _) (by decide) 1 _
   have h2V:OwnE boolE V W0.heap.size A2 d2 T.busy:=by rw[←hV];exact((o2.base_ r9).farB kG (by decide) 0 _).farB (kG.set_ 0 _) (by decide) 1 _
   have H1:=Lib.hid h1V;have H2:=Lib.hid h2V;rw[hV];clear hV y0 y1 yf0 yf1 o1 o2 h1V h2V kG kRz kW kR0 hbz hb0;go_wp2_with fail;refine zrg [1,1,0,1,3,0,0] [[],[],[],[],[],[],[]] [.kn ?_,.kn ?_,.is ?_,.kn (.bool fb),.late,.is ?_,.is ?_] [4] (lts_kn (lts_kn (lts_is (lts_kn (lts_late (lts_is (lts_is lts_nil))))))) (fun W0 hb0 hz0 => ?_)
   rotate_left 5
   have kW:=kV.below_ hb0 kV.lt;have kR0:=kRV.below_ hb0 kRV.lt;have zW:=kW.lt;obtain⟨p0,p1⟩:=zc2 kW;refine zqT (fun w hbw hd => ?_) ?_
   ·have r0:=cell_keep hbw p0 zW
    have r1:=cell_keep hbw p1 zW;exact zgs
   refine zqT (fun w hbw hd => ?_) ?_
   ·have r0:=cell_keep hbw p0 zW
    have r1:=cell_keep hbw p1 zW;exact zgs
   refine zqp ?_;refine zqc (fun w hbw hd K Q' hK => ?_) ?_
   ·clear hd
    go_simp;refine (HFR.out A1 A2 d1 d2 w (H1.out.sr.ext (hb0.trans (hbw.mono hb0.size))) (H2.out.sr.ext (hb0.trans (hbw.mono hb0.size)))).mono ?_;rintro e y ⟨rfl,hy⟩;go_wp2_with fail;exact hK.out _ _ _ zpt zbm rfl
   refine zql ?_;refine zqp ?_;refine zqp ?_;refine chn_end (fun wz lo hi hbz hd hR => ?_);have BZ2:Below w.heap.size w wz:=BV.trans ((hb0.trans (hbz.mono hb0.size)).mono BV.size);have kRz:=kR0.below_ hbz kR0.lt;have o1:=H1.out.ext (hb0.trans (hbz.mono hb0.size));have o2:=H2.out.ext (hb0.trans (hbz.mono hb0.size));clear hd hR p0 p1;have zR9:=kRz.lt;obtain⟨t0,t1⟩:=zc2 kRz;obtain⟨tf0,tf1,-⟩:=zf kRz;refine late_one (by simp only[zy5,zy6,zy7];rfl) (fun K Q' hK => ?_);go_simp;refine hK.out _ ?_;clear hK K Q';go_wp2_with fail;obtain⟨W,hW⟩:∃ W,setN wz (w.heap.size+1) 0 [.slice A1 T.refs.length d1,.slice A2 T.busy.length d2]=W:=⟨_,rfl⟩;have hWn:World.setCell (World.setCell wz ⟨w.heap.size+1,0,none⟩ (.slice A1 T.refs.length d1)) ⟨w.heap.size+1,1,none⟩ (.slice A2 T.busy.length d2)=W:=hW;have kW:=zsw hW kRz;have bW:=zbw hW BZ2 (by omega);have o1W:OwnE intE W (w.heap.size+2) A1 d1 T.refs:=by rw[←hW];exact(o1.base_ (by omega)).farN (by exact Nat.lt_succ_self _) _
   have o2W:OwnE boolE W (w.heap.size+2) A2 d2 T.busy:=by rw[←hW];exact(o2.base_ (by omega)).farN (by exact Nat.lt_succ_self _) _
   rw[hWn];clear hWn hW t0 t1 tf0 tf1;refine bodyPost_ret (by simp[results,Tryz.results84,go_sem,zc2 kW] <;> rfl) rfl ?_;rw[HE.out];exact⟨A1,d1,A2,d2,rfl,o1W.base_ (by omega),o2W.base_ (by omega),bW⟩
 ·have HE:Hid (Q=(.zero,false,z)):=by show _=_;rw[←HQ.out];unfold unrT;rw[HZ.out,if_pos z0]
  have zb:(z != 0)=true:=by simpa using z0
  clear z0;unfold stV at HC ⊢;obtain⟨X,hX⟩:∃ X,(w.alloc (.cells #[.slice A s.refs.length c,.slice B s.busy.length d] 25)).alloc (.cells #[.slice none 0 0,.slice none 0 0] 25)=X:=⟨_,rfl⟩;have kX:=za1 hX;have kR:=za2 hX;have BX:Below w.heap.size w X:=by rw[←hX];exact zbl
  have zX:=kX.lt;have zR:=kR.lt;obtain⟨q0,q1⟩:=zc2 kX
  go_enter Tryz.func84,Tryz.ntmps84
  go_wp2_with fail;(try rw[hX]);clear hX;refine (HC.out X (HA.out.ext BX)).mono ?_;rintro e1 w1 ⟨rfl,hb1⟩;have B1:=BX.trans (hb1.mono BX.size);replace kX:=kX.below_ hb1 zX;replace kR:=kR.below_ hb1 zR;clear zX zR hb1 q0 q1;have zX:=kX.lt;have zR:=kR.lt;obtain⟨q0,q1⟩:=zc2 kX;obtain⟨t0,t1⟩:=zc2 kR;obtain⟨tf0,tf1,-⟩:=zf kR;go_wp2_with fail;obtain⟨W,hW⟩:∃ W,setN w1 (w.heap.size+1) 0 [.slice none 0 0,.slice none 0 0]=W:=⟨_,rfl⟩;have hWn:World.setCell (World.setCell w1 ⟨w.heap.size+1,0,none⟩ (.slice none 0 0)) ⟨w.heap.size+1,1,none⟩ (.slice none 0 0)=W:=hW;have kW:=zsw hW kR;have bW:=zbw hW B1 (by omega);rw[hWn];clear hWn hW t0 t1 tf0 tf1;refine bodyPost_ret (by simp[results,Tryz.results84,go_sem,zc2 kW] <;> rfl) rfl ?_;rw[HE.out];exact StPost.zero bW
theorem rsSettle_any(A B:Option Addr)(c d:Nat)(s:Sts)(n:Int)(w:World)(ha:SR intE w A s.refs)(hb:SR boolE w B s.busy)(hok:OkT s)(h0:(setT s n).2.2=0) :
  Calls Tryz.prog 82 #[stV A c B d s,.int .i64 n] w (StPost (setT s n).1 [.bool (setT s n).2.1,.int .i64 (setT s n).2.2] w):=by
 obtain⟨Q,hQ⟩:∃ Q,setT s n=Q:=⟨_,rfl⟩;rw[hQ] at h0 ⊢;have HQ:=Lib.hid hQ;have H0:=Lib.hid h0;clear hQ h0;have HA:=Lib.hid ha;have HB:=Lib.hid hb;have HOK:=Lib.hid hok;obtain⟨l1,l2⟩:=hok.len;have HBL:=Lib.hid hok.blen;obtain⟨z,hz⟩:∃ z,askT s n=z:=⟨_,rfl⟩;have HZ:=Lib.hid hz
 have hC:=fun W h=>rsAsked_any A B c d s n W h hok
 rw[hz] at hC;have HC:=Lib.hid hC;clear ha hb hC hz hok
 have z0:z=0:=by
  apply Classical.byContradiction;intro z0;have h1:=HQ.out;unfold setT at h1;rw[HZ.out,if_pos z0] at h1;have h2:=H0.out;rw[←h1] at h2;exact z0 h2
 subst z0;have hn:=(askT_zero HOK.out).1 HZ.out;obtain⟨k,rfl⟩:∃ k:Nat,n=k:=⟨n.toNat,by omega⟩;have hk:k<s.refs.length:=by omega
 clear hn;obtain⟨b1,o1,x1,rfl,hl1,hx1,hc1⟩:=HA.out.at_ hk;obtain⟨b2,o2,x2,rfl,hl2,hx2,hc2⟩:=HB.out.at_ (k:=k) (by have:=HBL.out;omega);have HR:Hid (refT s k=x1):=by show _=_;unfold refT;rw[List.getD_eq_getElem?_getD,hx1];rfl
 have HX2:Hid (bsyT s k=x2):=by show _=_;unfold bsyT;rw[List.getD_eq_getElem?_getD,hx2];rfl
 have HRG:Hid (0≤x1∧x1≤512):=HOK.out.range x1 (List.mem_of_getElem? hx1);have HC1:Hid (w.cell? ⟨b1,o1+k,none⟩=some (.int .i64 x1)):=by show _=_;simpa [show intE.sz=1 from rfl] using hc1 0 (.int .i64 x1) rfl
 have HC2:Hid (w.cell? ⟨b2,o2+k,none⟩=some (.bool x2)):=by show _=_;simpa [show boolE.sz=1 from rfl] using hc2 0 (.bool x2) rfl
 have i1:(k:Int)<s.refs.length:=by omega
 have i2:(k:Int)<s.busy.length:=by have:=HBL.out;omega
 clear hx1 hx2 hc1 hc2
 have hx2:x2=true:=by
  cases e:x2 with
  | true=>rfl
  | false=>
   have h1:=HQ.out;unfold setT at h1;rw[HZ.out,if_neg (by simp),Int.toNat_natCast,HX2.out,e] at h1;have h2:=H0.out;rw[←h1] at h2;exact absurd h2 (by simp)
 subst hx2
 have HQ2:Hid (Q=(witT s k x1 false,freT (witT s k x1 false) k,0)):=by
  show _=_;rw[←HQ.out];unfold setT;rw[HZ.out,if_neg (by simp),Int.toNat_natCast,HR.out,HX2.out,if_neg (by simp)]
 unfold stV at HC ⊢;obtain⟨X,hX⟩:∃ X,(w.alloc (.cells #[.slice (some ⟨b1,o1,none⟩) s.refs.length c,.slice (some ⟨b2,o2,none⟩) s.busy.length d] 25)).alloc (.cells #[.slice none 0 0,.slice none 0 0] 25)=X:=⟨_,rfl⟩;have kX:=za1 hX;have kR:=za2 hX;have BX:Below w.heap.size w X:=by rw[←hX];exact zbl
 have zX:=kX.lt;have zR:=kR.lt;obtain⟨q0,q1⟩:=zc2 kX
 go_enter Tryz.func82,Tryz.ntmps82
 go_wp2_with fail;(try rw[hX]);clear hX;refine (HC.out X (HA.out.ext BX)).mono ?_;rintro e1 w1 ⟨rfl,hb1⟩;have B1:=BX.trans (hb1.mono BX.size);replace kX:=kX.below_ hb1 zX;replace kR:=kR.below_ hb1 zR;clear zX zR hb1 q0 q1;have zX:=kX.lt;have zR:=kR.lt;obtain⟨q0,q1⟩:=zc2 kX;have c1:=cell_keep B1 HC1.out hl1;have c2:=cell_keep B1 HC2.out hl2;have zb:b1<w1.heap.size:=Nat.lt_of_lt_of_le hl1 B1.size;have zb2:b2<w1.heap.size:=Nat.lt_of_lt_of_le hl2 B1.size;obtain⟨T,hT⟩:∃ T,witT s k x1 false=T:=⟨_,rfl⟩;have HT:=Lib.hid hT
 have hW:=fun W h1 h2=>rsWith_any (some ⟨b1,o1,none⟩) (some ⟨b2,o2,none⟩) c d s k x1 false W h1 h2 (by omega) HBL.out hk
 rw[hT] at hW;have HW:=Lib.hid hW;unfold stV at HW;have hT1:T.refs.length=s.refs.length:=by rw[←hT];simp[witT]
 have hT2:T.busy.length=T.refs.length:=by rw[←hT];have:=HBL.out;simp[witT,this]
 have HT1:=Lib.hid hT1;have HT2:=Lib.hid hT2;clear hT hW hT1 hT2;obtain⟨fb,hfb⟩:∃ fb,freT T k=fb:=⟨_,rfl⟩;have HFB:=Lib.hid hfb
 have hFR:=fun A1 A2 d1 d2 W h1 h2=>rsFree_any A1 A2 d1 d2 T k W h1 h2 (by have:=HT1.out;omega) HT2.out
 rw[hfb] at hFR;have HFR:=Lib.hid hFR;unfold stV at HFR;clear hfb hFR;have HE:Hid (Q=(T,fb,0)):=by show _=_;rw[HQ2.out,HT.out,HFB.out]
 have BW:=B1;go_upto_region 6 with fail;refine zrg [1,0,0,1,0,0,1,2,2,3] [[],[],[],[],[],[],[],[],[],[]] [.kn ?_,.is ?_,.is ?_,.kn ?_,.is ?_,.is ?_,.kn ?_,.has (StFk T),.has (VarN 25 [.slice none 0 0,.slice none 0 0]),.late] [9] (lts_kn (lts_is (lts_is (lts_kn (lts_is (lts_is (lts_kn (lts_has (StFk.lasts T) (lts_has (VarN.lasts 25 [.slice none 0 0,.slice none 0 0]) (lts_late lts_nil)))))))))) (fun W0 hb0 hz0 => ?_)
 rotate_left 7
 have kW:=kX.below_ hb0 kX.lt;have kR0:=kR.below_ hb0 kR.lt;have zW:=kW.lt;have u1:=cell_keep hb0 c1 zb;have u2:=cell_keep hb0 c2 zb2;have zu1:=Nat.lt_of_lt_of_le zb hb0.size;have zu2:=Nat.lt_of_lt_of_le zb2 hb0.size;obtain⟨p0,p1⟩:=zc2 kW;refine zqT (fun w hbw hd => ?_) ?_
 ·have r0:=cell_keep hbw p0 zW
  have r1:=cell_keep hbw p1 zW;exact zgs
 refine zqp ?_;refine zqp ?_;refine zqT (fun w hbw hd => ?_) ?_
 ·have q1:=cell_keep hbw p0 zW
  exact zgs
 refine zqp ?_;refine zqp ?_;refine zqT (fun w hbw hd => ?_) ?_
 ·have q1:=cell_keep hbw u1 zu1
  exact zgs
 refine zqh (fun w hbw hd K Q' hK => ?_) (fun vse7 => ?_)
 ·clear hd
  go_simp;refine (HW.out w (HA.out.ext (BW.trans ((hb0.trans (hbw.mono hb0.size)).mono BW.size))) (HB.out.ext (BW.trans ((hb0.trans (hbw.mono hb0.size)).mono BW.size)))).mono ?_;rintro e y ⟨A',c',B',d',rfl,ho,hp,hy⟩;go_wp2_with fail;exact hK.out (stV A' c' B' d' T) _ _ zpt zbm ⟨A',c',B',d',rfl,ho,hp⟩
 refine zqh (fun w hbw hd K Q' hK => ?_) (fun vse8 => ?_)
 ·clear hd
  go_simp;exact hK.out (.pointer (some ⟨w.heap.size,0,none⟩)) _ _ zpt zbm ⟨_,rfl,Blk.new_ rfl rfl,Nat.le_refl _,by simp⟩
 refine zql ?_;refine chn_end (fun wz lo hi hbz hd hR => ?_);obtain⟨A1,d1,A2,d2,rfl,o1,o2⟩:StFk T vse7 (lo 7) (hi 7) wz:=hd 7 _ _ rfl rfl;have r9:=(hR.2 7 _ rfl).1;have zX1:w.heap.size+1<W0.heap.size:=kR0.lt;have BZ:Below w.heap.size w wz:=BW.trans ((hb0.trans (hbz.mono hb0.size)).mono BW.size);have kRz:=kR0.below_ hbz kR0.lt;unfold stV;obtain⟨G,rfl,kG,hlo,hhi⟩:VarN 25 [.slice none 0 0,.slice none 0 0] vse8 (lo 8) (hi 8) wz:=hd 8 _ _ rfl rfl;have r10:=(hR.2 8 _ rfl).1;have zGl:W0.heap.size≤G:=by omega
 have zG:=kG.lt;clear hd hR p0 p1 u1 u2;have y0:=zc kG 0;have y1:=zc kG 1;obtain⟨yf0,yf1,-⟩:=zf kG;refine late_one (by simp only[zy5,zy6,zy7];rfl) (fun K Q' hK => ?_);go_simp;refine hK.out _ ?_;clear hK K Q';obtain⟨V,hV⟩:∃ V,(wz.setCell ⟨G,0,none⟩ (.slice A1 T.refs.length d1)).setCell ⟨G,1,none⟩ (.slice A2 T.busy.length d2)=V:=⟨_,rfl⟩;have kV:Blk V G 25 #[.slice A1 T.refs.length d1,.slice A2 T.busy.length d2]:=by rw[←hV];exact(kG.set_ 0 _).set_ 1 _
 have kRV:Blk V (w.heap.size+1) 25 #[.slice none 0 0,.slice none 0 0]:=by rw[←hV];exact(kRz.far_ (by show w.heap.size+1≠G;omega) _).far_ (by show w.heap.size+1≠G;omega) _
 have BV:Below w.heap.size w V:=by rw[←hV];exact(BZ.setCell (p:=⟨G,0,none⟩) (by show w.heap.size≤G;omega) _).setCell (p:=⟨G,1,none⟩) (by show w.heap.size≤G;omega) _
 have h1V:OwnE intE V W0.heap.size A1 d1 T.refs:=by rw[←hV];exact((o1.base_ r9).farB kG (by decide) 0 _).farB (kG.set_ 0 _) (by decide) 1 _
 have h2V:OwnE boolE V W0.heap.size A2 d2 T.busy:=by rw[←hV];exact((o2.base_ r9).farB kG (by decide) 0 _).farB (kG.set_ 0 _) (by decide) 1 _
 have H1:=Lib.hid h1V;have H2:=Lib.hid h2V;rw[hV];clear hV y0 y1 yf0 yf1 o1 o2 h1V h2V kG kRz kW kR0 hbz hb0;go_wp2_with fail;refine zrg [1,1,0,1,3,0,0] [[],[],[],[],[],[],[]] [.kn ?_,.kn ?_,.is ?_,.kn (.bool fb),.late,.is ?_,.is ?_] [4] (lts_kn (lts_kn (lts_is (lts_kn (lts_late (lts_is (lts_is lts_nil))))))) (fun W0 hb0 hz0 => ?_)
 rotate_left 5
 have kW:=kV.below_ hb0 kV.lt;have kR0:=kRV.below_ hb0 kRV.lt;have zW:=kW.lt;obtain⟨p0,p1⟩:=zc2 kW;refine zqT (fun w hbw hd => ?_) ?_
 ·have r0:=cell_keep hbw p0 zW
  have r1:=cell_keep hbw p1 zW;exact zgs
 refine zqT (fun w hbw hd => ?_) ?_
 ·have r0:=cell_keep hbw p0 zW
  have r1:=cell_keep hbw p1 zW;exact zgs
 refine zqp ?_;refine zqc (fun w hbw hd K Q' hK => ?_) ?_
 ·clear hd
  go_simp;refine (HFR.out A1 A2 d1 d2 w (H1.out.sr.ext (hb0.trans (hbw.mono hb0.size))) (H2.out.sr.ext (hb0.trans (hbw.mono hb0.size)))).mono ?_;rintro e y ⟨rfl,hy⟩;go_wp2_with fail;exact hK.out _ _ _ zpt zbm rfl
 refine zql ?_;refine zqp ?_;refine zqp ?_;refine chn_end (fun wz lo hi hbz hd hR => ?_);have BZ2:Below w.heap.size w wz:=BV.trans ((hb0.trans (hbz.mono hb0.size)).mono BV.size);have kRz:=kR0.below_ hbz kR0.lt;have o1:=H1.out.ext (hb0.trans (hbz.mono hb0.size));have o2:=H2.out.ext (hb0.trans (hbz.mono hb0.size));clear hd hR p0 p1;have zR9:=kRz.lt;obtain⟨t0,t1⟩:=zc2 kRz;obtain⟨tf0,tf1,-⟩:=zf kRz;refine late_one (by simp only[zy5,zy6,zy7];rfl) (fun K Q' hK => ?_);go_simp;refine hK.out _ ?_;clear hK K Q';go_wp2_with fail;obtain⟨W,hW⟩:∃ W,setN wz (w.heap.size+1) 0 [.slice A1 T.refs.length d1,.slice A2 T.busy.length d2]=W:=⟨_,rfl⟩;have hWn:World.setCell (World.setCell wz ⟨w.heap.size+1,0,none⟩ (.slice A1 T.refs.length d1)) ⟨w.heap.size+1,1,none⟩ (.slice A2 T.busy.length d2)=W:=hW;have kW:=zsw hW kRz;have bW:=zbw hW BZ2 (by omega);have o1W:OwnE intE W (w.heap.size+2) A1 d1 T.refs:=by rw[←hW];exact(o1.base_ (by omega)).farN (by exact Nat.lt_succ_self _) _
 have o2W:OwnE boolE W (w.heap.size+2) A2 d2 T.busy:=by rw[←hW];exact(o2.base_ (by omega)).farN (by exact Nat.lt_succ_self _) _
 rw[hWn];clear hWn hW t0 t1 tf0 tf1;refine bodyPost_ret (by simp[results,Tryz.results82,go_sem,zc2 kW] <;> rfl) rfl ?_;rw[HE.out];exact⟨A1,d1,A2,d2,rfl,o1W.base_ (by omega),o2W.base_ (by omega),bW⟩
end Go.Proofs.YthijbipidbjpfaaGreatDoor
