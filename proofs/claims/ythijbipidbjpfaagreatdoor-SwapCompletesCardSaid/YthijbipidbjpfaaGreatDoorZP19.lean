import Derived.Test.YthijbipidbjpfaaGreatDoorZP18
import Derived.Test.YthijbipidbjpfaaGreatDoorZP00
import Derived.Test.YthijbipidbjpfaaGreatDoorZP03
import Derived.Test.YthijbipidbjpfaaGreatDoorZP14
import Derived.Test.YthijbipidbjpfaaGreatDoorZP06
set_option linter.unusedSimpArgs false
set_option linter.unusedVariables false
set_option maxRecDepth 100000
set_option maxHeartbeats 8000000
namespace Go.Proofs.YthijbipidbjpfaaGreatDoor
open Go.RowKit Go.Maps
theorem WriteOut_any(L:Lay)(s:Swp)(f r:Int)(x:Ct)(w:World)(h:SwA w L s)(hz:TZ w) :
  Calls Tryz.prog 16 #[swV L s,.int .i64 f,.int .i64 r,ctV x] w (SwPost (wrtW s f r x).1 [.int .i64 (wrtW s f r x).2.1,.int .i64 (wrtW s f r x).2.2] w):=by
 obtain⟨a0,c0,a1,c1,a2,c2,a3,c3,a4,c4,a5,c5,a6,c6,a7,c7⟩:=L;have HA:=Lib.hid h;have HZ:=Lib.hid hz;have HW0:0<w.heap.size:=hz.pos;obtain⟨Q,hQ⟩:∃ Q,wrtW s f r x=Q:=⟨_,rfl⟩;rw[hQ];have HQ:=Lib.hid hQ;clear hQ h hz;unfold swV swC ctV ctC;obtain⟨X,hX⟩:∃ X,((w.alloc (.cells (zkx s a0 c0 a1 c1 a2 c2 a3 c3 a4 c4 a5 c5 a6 c6 a7 c7).toArray 35)).alloc (.cells (zkk x.c0 x.c1 x.c2 x.c3 x.c4 x.c5 x.c6 x.c7).toArray 38)).alloc (.cells zkz.toArray 35)=X:=⟨_,rfl⟩;have kX:Blk X w.heap.size 35 (zkx s a0 c0 a1 c1 a2 c2 a3 c3 a4 c4 a5 c5 a6 c6 a7 c7).toArray:=by rw[←hX];exact((Blk.new_ rfl rfl).alloc_ _).alloc_ _
 have kC:Blk X (w.heap.size+1) 38 (zkk x.c0 x.c1 x.c2 x.c3 x.c4 x.c5 x.c6 x.c7).toArray:=by rw[←hX];exact(Blk.new_ (by simp) rfl:Blk _ (w.heap.size+1) _ _).alloc_ _
 have kR:Blk X (w.heap.size+2) 35 zkz.toArray:=by rw[←hX];exact Blk.new_ (by simp) rfl
 have BX:Below w.heap.size w X:=by rw[←hX];exact zbl
 obtain⟨z,hzz⟩:∃ z,chkW s=z:=⟨_,rfl⟩;have HZZ:=Lib.hid hzz;have hC:=wCheck_any ⟨a0,c0,a1,c1,a2,c2,a3,c3,a4,c4,a5,c5,a6,c6,a7,c7⟩ s X (HA.out.ext BX) (HZ.out.ext HW0 BX);rw[hzz] at hC;have HC:=Lib.hid hC;clear hC hzz;have zkX:=kX.lt;obtain⟨q0,q1,q2,q3,q4,q5,q6,q7,q8,q9,q10⟩:=zc11 kX
 go_enter Tryz.func16,Tryz.ntmps16
 go_wp2_with fail;(try rw[hX]);clear hX;refine HC.out.mono ?_;rintro e1 w1 ⟨rfl,hb1⟩;have B1:=zbt BX hb1;replace kX:=kX.below_ hb1 kX.lt;replace kC:=kC.below_ hb1 kC.lt;replace kR:=kR.below_ hb1 kR.lt;clear hb1;clear zkX q0 q1 q2 q3 q4 q5 q6 q7 q8 q9 q10
 by_cases z0:z=0
 ·subst z0
  have HOK:Hid (OkS s):=chkW_ok.1 HZZ.out
  cases d1:decide (0≤f∧f<256) with
  | false=>
   have HE:Hid (Q=(.zero,0,2)):=by show _=_;rw[←HQ.out];unfold wrtW frW;rw[HZZ.out,if_neg (by simp),d1];rfl
   have ztR:=kR.lt;obtain⟨t0,t1,t2,t3,t4,t5,t6,t7,t8,t9,t10⟩:=zc11 kR;obtain⟨tf0,tf1,tf2,tf3,tf4,tf5,tf6,tf7,tf8,tf9,tf10,-⟩:=zf kR
   go_wp2_with (go_at_call 48;refine (swFrame_b _ _ d1 _).mono ?_;rintro e w' ⟨rfl,rfl⟩)
   obtain⟨W,hW⟩:∃ W,setN w1 (w.heap.size+2) 0 zkz=W:=⟨_,rfl⟩;have hWn:=zs11 hW;have kW:=zsw hW kR;have bW:=zbw hW B1 (by omega);rw[hWn];clear hWn hW t0 tf0 t1 tf1 t2 tf2 t3 tf3 t4 tf4 t5 tf5 t6 tf6 t7 tf7 t8 tf8 t9 tf9 t10 tf10;refine bodyPost_ret (by simp[results,Tryz.results16,go_sem,zc11 kW] <;> rfl) rfl ?_;rw[HE.out];exact⟨.zero,rfl,SwO.zero,bW⟩
  | true=>
   have HD1:Hid (frW f=true):=d1
   by_cases r0:r<1
   ·have HE:Hid (Q=(.zero,0,15)):=by show _=_;rw[←HQ.out];unfold wrtW;rw[HZZ.out,if_neg (by simp),HD1.out,if_neg (by simp),if_pos (.inl r0)]
    have r0b:decide (r<1)=true:=by simpa using r0
    clear r0;have ztR:=kR.lt;obtain⟨t0,t1,t2,t3,t4,t5,t6,t7,t8,t9,t10⟩:=zc11 kR;obtain⟨tf0,tf1,tf2,tf3,tf4,tf5,tf6,tf7,tf8,tf9,tf10,-⟩:=zf kR
    go_wp2_with (go_at_call 48;refine (swFrame_b _ _ d1 _).mono ?_;rintro e w' ⟨rfl,rfl⟩)
    obtain⟨W,hW⟩:∃ W,setN w1 (w.heap.size+2) 0 zkz=W:=⟨_,rfl⟩;have hWn:=zs11 hW;have kW:=zsw hW kR;have bW:=zbw hW B1 (by omega);rw[hWn];clear hWn hW t0 tf0 t1 tf1 t2 tf2 t3 tf3 t4 tf4 t5 tf5 t6 tf6 t7 tf7 t8 tf8 t9 tf9 t10 tf10;refine bodyPost_ret (by simp[results,Tryz.results16,go_sem,zc11 kW] <;> rfl) rfl ?_;rw[HE.out];exact⟨.zero,rfl,SwO.zero,bW⟩
   ·have r0b:decide (r<1)=false:=by simpa using r0
    by_cases r1:512<r
    ·have HE:Hid (Q=(.zero,0,15)):=by show _=_;rw[←HQ.out];unfold wrtW;rw[HZZ.out,if_neg (by simp),HD1.out,if_neg (by simp),if_pos (.inr r1)]
     have r1b:decide (r>512)=true:=by simpa using r1
     clear r0 r1;have ztR:=kR.lt;obtain⟨t0,t1,t2,t3,t4,t5,t6,t7,t8,t9,t10⟩:=zc11 kR;obtain⟨tf0,tf1,tf2,tf3,tf4,tf5,tf6,tf7,tf8,tf9,tf10,-⟩:=zf kR
     go_wp2_with (go_at_call 48;refine (swFrame_b _ _ d1 _).mono ?_;rintro e w' ⟨rfl,rfl⟩)
     obtain⟨W,hW⟩:∃ W,setN w1 (w.heap.size+2) 0 zkz=W:=⟨_,rfl⟩;have hWn:=zs11 hW;have kW:=zsw hW kR;have bW:=zbw hW B1 (by omega);rw[hWn];clear hWn hW t0 tf0 t1 tf1 t2 tf2 t3 tf3 t4 tf4 t5 tf5 t6 tf6 t7 tf7 t8 tf8 t9 tf9 t10 tf10;refine bodyPost_ret (by simp[results,Tryz.results16,go_sem,zc11 kW] <;> rfl) rfl ?_;rw[HE.out];exact⟨.zero,rfl,SwO.zero,bW⟩
    ·have r1b:decide (r>512)=false:=by simpa using r1
     have HR:Hid (1≤r∧r≤512):=⟨by omega,by omega⟩
     have HR2:Hid (¬ (r<1∨512<r)):=fun h=>h.elim r0 r1
     clear r0 r1;obtain⟨us,hus⟩:∃ b,usW s f=b:=⟨_,rfl⟩;have HUS:=Lib.hid hus;have hF:=hasFrame_any ⟨a0,c0,a1,c1,a2,c2,a3,c3,a4,c4,a5,c5,a6,c6,a7,c7⟩ s f w1 (HA.out.sw.r6.ext B1) HA.out.few.f6;rw[hus] at hF;have HF:=Lib.hid hF;clear hF hus;have zkX:=kX.lt;obtain⟨q0,q1,q2,q3,q4,q5,q6,q7,q8,q9,q10⟩:=zc11 kX
     go_wp2_with (go_at_call 48;refine (swFrame_b _ _ d1 _).mono ?_;rintro e w' ⟨rfl,rfl⟩)
     refine HF.out.mono ?_;rintro e2 w2 ⟨rfl,hb2⟩;have B2:=zbt B1 hb2;replace kX:=kX.below_ hb2 kX.lt;replace kC:=kC.below_ hb2 kC.lt;replace kR:=kR.below_ hb2 kR.lt;clear hb2;clear zkX q0 q1 q2 q3 q4 q5 q6 q7 q8 q9 q10
     cases us with
     | true=>
      have HE:Hid (Q=(.zero,0,10)):=by show _=_;rw[←HQ.out];unfold wrtW;rw[HZZ.out,if_neg (by simp),HD1.out,if_neg (by simp),if_neg HR2.out,HUS.out,if_pos rfl]
      have ztR:=kR.lt;obtain⟨t0,t1,t2,t3,t4,t5,t6,t7,t8,t9,t10⟩:=zc11 kR;obtain⟨tf0,tf1,tf2,tf3,tf4,tf5,tf6,tf7,tf8,tf9,tf10,-⟩:=zf kR;go_wp2_with fail;obtain⟨W,hW⟩:∃ W,setN w2 (w.heap.size+2) 0 zkz=W:=⟨_,rfl⟩;have hWn:=zs11 hW;have kW:=zsw hW kR;have bW:=zbw hW B2 (by omega);rw[hWn];clear hWn hW t0 tf0 t1 tf1 t2 tf2 t3 tf3 t4 tf4 t5 tf5 t6 tf6 t7 tf7 t8 tf8 t9 tf9 t10 tf10;refine bodyPost_ret (by simp[results,Tryz.results16,go_sem,zc11 kW] <;> rfl) rfl ?_;rw[HE.out];exact⟨.zero,rfl,SwO.zero,bW⟩
     | false=>
      obtain⟨hl,hhl⟩:∃ l,hinW s=l:=⟨_,rfl⟩;have HHL:=Lib.hid hhl;have hH:=hinders_any ⟨a0,c0,a1,c1,a2,c2,a3,c3,a4,c4,a5,c5,a6,c6,a7,c7⟩ s w2 (HA.out.ext B2) HOK.out;rw[hhl] at hH;have HH:=Lib.hid hH;clear hH hhl;have zkX:=kX.lt;obtain⟨q0,q1,q2,q3,q4,q5,q6,q7,q8,q9,q10⟩:=zc11 kX;go_wp2_with fail;refine HH.out.mono ?_;rintro e3 w3 ⟨hA,hc,rfl,_,hb3⟩;have B3:=zbt B2 hb3;replace kX:=kX.below_ hb3 kX.lt;replace kC:=kC.below_ hb3 kC.lt;replace kR:=kR.below_ hb3 kR.lt;clear hb3;clear zkX q0 q1 q2 q3 q4 q5 q6 q7 q8 q9 q10
      by_cases hn:hl=[]
      ·subst hn
       obtain⟨i,d,l,hi,_,_,_,hfr,p1,p2,p3,p4,p5⟩:=wrt_parts HOK.out x HD1.out HR.out HUS.out HHL.out
       have HE:Hid (Q=(describeW { s with sl:=(witT s.sl i r true),dk:=⟨s.dk.cells,s.dk.jobs++[⟨true,i,f,x⟩],s.dk.room⟩,wr:=s.wr++[((i:Int),f,0)] },(i:Int),0)):=by
        show _=_;rw[←HQ.out];unfold wrtW;rw[HZZ.out,if_neg (by simp),HD1.out,if_neg (by simp),if_neg HR2.out,HUS.out,if_neg (by simp),HHL.out,if_neg (by simp)];simp only[p1,p2]
       have P1:=Lib.hid p1;have P2:=Lib.hid p2;have P3:=Lib.hid p3;have PF:=Lib.hid hfr;clear p1 p2 p3 p4 p5 hfr hi;have HL:=Lib.hid (load_any ⟨a0,c0,a1,c1,a2,c2,a3,c3,a4,c4,a5,c5,a6,c6,a7,c7⟩ s w3 (HA.out.sw.ext B3) HA.out.few);have zkX:=kX.lt;obtain⟨q0,q1,q2,q3,q4,q5,q6,q7,q8,q9,q10⟩:=zc11 kX;go_wp2_with fail;refine HL.out.mono ?_;rintro e4 w4 ⟨B,L4,rfl,K4,hb4⟩;have HKR:w.heap.size+2<w3.heap.size:=kR.lt;have HK4:=Lib.hid K4;have hWR:=Lib.hid (write_any w3.heap.size B L4 s f r x w4 K4 HA.out.few HOK.out.po P1.out P2.out P3.out PF.out);have B4:=zbt B3 hb4;replace kX:=kX.below_ hb4 kX.lt;replace kC:=kC.below_ hb4 kC.lt;replace kR:=kR.below_ hb4 kR.lt;clear hb4;clear zkX q0 q1 q2 q3 q4 q5 q6 q7 q8 q9 q10;have zC:=kC.lt;obtain⟨y0,y1,y2,y3,y4,y5,y6,y7⟩:=zc8 kC;clear K4;go_wp2_with fail;refine hWR.out.mono ?_;rintro e5 w5 ⟨rfl,⟨⟨b0,k0,b1,k1,b2,k2,b3,k3,b4,k4,b5,k5,b6,k6,b7,k7⟩,K5⟩,hb5⟩;have kB5:Blk w5 B 87 (swC ⟨b0,k0,b1,k1,b2,k2,b3,k3,b4,k4,b5,k5,b6,k6,b7,k7⟩ (describeW { s with sl:=(witT s.sl i r true),dk:=⟨s.dk.cells,s.dk.jobs++[⟨true,i,f,x⟩],s.dk.room⟩,wr:=s.wr++[((i:Int),f,0)] })).toArray:=K5.blk;obtain⟨S5,hS5⟩:∃ S5,describeW { s with sl:=(witT s.sl i r true),dk:=⟨s.dk.cells,s.dk.jobs++[⟨true,i,f,x⟩],s.dk.room⟩,wr:=s.wr++[((i:Int),f,0)] }=S5:=⟨_,rfl⟩;rw[hS5] at K5 kB5 HE;have kB6:Blk w5 B 87 (zkx S5 b0 k0 b1 k1 b2 k2 b3 k3 b4 k4 b5 k5 b6 k6 b7 k7).toArray:=kB5;have HO5:=Lib.hid K5.own;have kR5:=kR.below_ hb5 HKR;have B5:Below w.heap.size w w5:=B4.trans (hb5.mono (by have:=B3.size;omega));clear K5 kB5 hS5 y0 y1 y2 y3 y4 y5 y6 y7;have ztR:=kR5.lt;have ztB:=kB6.lt;obtain⟨t0,t1,t2,t3,t4,t5,t6,t7,t8,t9,t10⟩:=zc11 kR5;obtain⟨tf0,tf1,tf2,tf3,tf4,tf5,tf6,tf7,tf8,tf9,tf10,-⟩:=zf kR5;obtain⟨u0,u1,u2,u3,u4,u5,u6,u7,u8,u9,u10⟩:=zc11 kB6;go_wp2_with fail;obtain⟨W,hW⟩:∃ W,setN w5 (w.heap.size+2) 0 (zkx S5 b0 k0 b1 k1 b2 k2 b3 k3 b4 k4 b5 k5 b6 k6 b7 k7)=W:=⟨_,rfl⟩;have hWn:=zs11 hW;have kW:=zsw hW kR5;have bW:=zbw hW B5 (by omega);have oW:SwO W w3.heap.size ⟨b0,k0,b1,k1,b2,k2,b3,k3,b4,k4,b5,k5,b6,k6,b7,k7⟩ S5:=by rw[←hW];exact HO5.out.farN HKR _
       rw[hWn];clear hWn hW t0 tf0 t1 tf1 t2 tf2 t3 tf3 t4 tf4 t5 tf5 t6 tf6 t7 tf7 t8 tf8 t9 tf9 t10 tf10;refine bodyPost_ret (by simp[results,Tryz.results16,go_sem,zc11 kW] <;> rfl) rfl ?_;rw[HE.out];exact⟨⟨b0,k0,b1,k1,b2,k2,b3,k3,b4,k4,b5,k5,b6,k6,b7,k7⟩,rfl,oW.base_ (by have:=B3.size;omega),bW⟩
      ·have HE:Hid (Q=(.zero,0,5)):=by show _=_;rw[←HQ.out];unfold wrtW;rw[HZZ.out,if_neg (by simp),HD1.out,if_neg (by simp),if_neg HR2.out,HUS.out,if_neg (by simp),HHL.out,if_pos hn]
       have hnb:0<hl.length:=List.length_pos_iff.2 hn;clear hn;have ztR:=kR.lt;obtain⟨t0,t1,t2,t3,t4,t5,t6,t7,t8,t9,t10⟩:=zc11 kR;obtain⟨tf0,tf1,tf2,tf3,tf4,tf5,tf6,tf7,tf8,tf9,tf10,-⟩:=zf kR;go_wp2_with fail;obtain⟨W,hW⟩:∃ W,setN w3 (w.heap.size+2) 0 zkz=W:=⟨_,rfl⟩;have hWn:=zs11 hW;have kW:=zsw hW kR;have bW:=zbw hW B3 (by omega);rw[hWn];clear hWn hW t0 tf0 t1 tf1 t2 tf2 t3 tf3 t4 tf4 t5 tf5 t6 tf6 t7 tf7 t8 tf8 t9 tf9 t10 tf10;refine bodyPost_ret (by simp[results,Tryz.results16,go_sem,zc11 kW] <;> rfl) rfl ?_;rw[HE.out];exact⟨.zero,rfl,SwO.zero,bW⟩
 ·have HE:Hid (Q=(.zero,0,z)):=by show _=_;rw[←HQ.out];unfold wrtW;rw[HZZ.out,if_pos (by simpa using z0)]
  have zb:(z != 0)=true:=by simpa using z0
  clear z0;have ztR:=kR.lt;obtain⟨t0,t1,t2,t3,t4,t5,t6,t7,t8,t9,t10⟩:=zc11 kR;obtain⟨tf0,tf1,tf2,tf3,tf4,tf5,tf6,tf7,tf8,tf9,tf10,-⟩:=zf kR;go_wp2_with fail;obtain⟨W,hW⟩:∃ W,setN w1 (w.heap.size+2) 0 zkz=W:=⟨_,rfl⟩;have hWn:=zs11 hW;have kW:=zsw hW kR;have bW:=zbw hW B1 (by omega);rw[hWn];clear hWn hW t0 tf0 t1 tf1 t2 tf2 t3 tf3 t4 tf4 t5 tf5 t6 tf6 t7 tf7 t8 tf8 t9 tf9 t10 tf10;refine bodyPost_ret (by simp[results,Tryz.results16,go_sem,zc11 kW] <;> rfl) rfl ?_;rw[HE.out];exact⟨.zero,rfl,SwO.zero,bW⟩
theorem wtok_of{s:Swp}(h:OkS s):wtok s=true:=by
 unfold wtok;rw[decide_eq_true h.wts,Bool.true_and,List.all_eq_true];intro x hx;simpa using h.wtr x hx
theorem ask_any(L:Lay)(s:Swp)(n p:Int)(w:World)(h:SwA w L s)(hok:OkS s):Calls Tryz.prog 89 #[swV L s,.int .i64 n,.int .i64 p] w fun e w'=>e=.returned (.int .i64 (askW s n p))∧Below w.heap.size w w':=by
 obtain⟨a0,c0,a1,c1,a2,c2,a3,c3,a4,c4,a5,c5,a6,c6,a7,c7⟩:=L;have HA:=Lib.hid h;have HOK:=Lib.hid hok;obtain⟨R,hR⟩:∃ R,askW s n p=R:=⟨_,rfl⟩;rw[hR];have HR:=Lib.hid hR;clear hR h hok;unfold swV swC;obtain⟨X,hX⟩:∃ X,w.alloc (.cells (zkx s a0 c0 a1 c1 a2 c2 a3 c3 a4 c4 a5 c5 a6 c6 a7 c7).toArray 35)=X:=⟨_,rfl⟩;have kX:Blk X w.heap.size 35 (zkx s a0 c0 a1 c1 a2 c2 a3 c3 a4 c4 a5 c5 a6 c6 a7 c7).toArray:=by rw[←hX];exact zbk
 have BX:Below w.heap.size w X:=by rw[←hX];exact zbl
 have zkX:=kX.lt;obtain⟨q0,q1,q2,q3,q4,q5,q6,q7,q8,q9,q10⟩:=zc11 kX
 by_cases n0:n<0
 ·have HE:Hid (R=2):=by show _=_;rw[←HR.out];unfold askW;rw[if_pos (.inl n0)]
  have n0b:decide (n<0)=true:=by simpa using n0
  clear n0
  go_enter Tryz.func89,Tryz.ntmps89
  go_wp2_with fail;go_ret;exact⟨by rw[HE.out];rfl,BX⟩
 ·have n0b:decide (n<0)=false:=by simpa using n0
  by_cases n1:(s.sl.refs.length:Int)≤n
  ·have HE:Hid (R=2):=by show _=_;rw[←HR.out];unfold askW;rw[if_pos (.inr (.inl n1))]
   have n1b:decide (n≥(s.sl.refs.length:Int))=true:=by simpa using n1
   clear n0 n1
   go_enter Tryz.func89,Tryz.ntmps89
   go_wp2_with fail;go_ret;exact⟨by rw[HE.out];rfl,BX⟩
  ·have n1b:decide (n≥(s.sl.refs.length:Int))=false:=by simpa using n1
   cases d1:decide (1≤p∧p≤8) with
   | false=>
    have HE:Hid (R=2):=by
     show _=_;rw[←HR.out];unfold askW;have:=of_decide_eq_false d1;rw[if_pos (.inr (.inr (by omega)))]
    clear n0 n1
    go_enter Tryz.func89,Tryz.ntmps89
    go_wp2_with (go_at_call 97;refine (swProc_b _ _ d1 _).mono ?_;rintro e w' ⟨rfl,rfl⟩)
    go_ret;exact⟨by rw[HE.out];rfl,BX⟩
   | true=>
    have hp:1≤p∧p≤8:=of_decide_eq_true d1
    have HN:Hid (¬ (n<0∨(s.sl.refs.length:Int)≤n∨p<1∨8<p)):=fun h=>by omega
    obtain⟨k,rfl⟩:∃ k:Nat,n=k:=⟨n.toNat,by omega⟩;have hk:k<s.sl.refs.length:=by omega
    have HWF:Hid ((Lit.int .i64 p).wf=true):=wf_i (by omega);have n1c:decide (s.sl.refs.length≤k)=false:=decide_eq_false (by omega);clear n0 n1 hp
    go_enter Tryz.func89,Tryz.ntmps89
    go_wp2_with (go_at_call 97;refine (swProc_b _ _ d1 _).mono ?_;rintro e w' ⟨rfl,rfl⟩)
    (try rw[hX]);clear hX n0b n1b n1c;refine (waiting_any ⟨a0,c0,a1,c1,a2,c2,a3,c3,a4,c4,a5,c5,a6,c6,a7,c7⟩ s X (HA.out.sw.r2.ext BX) (HA.out.sw.r3.ext BX) HOK.out.wr HA.out.wf HA.out.few.f3).mono ?_;rintro e1 w1 ⟨hb1,⟨_,M,m,rfl,hM,hMl⟩ | ⟨hw,_⟩⟩
    ·have _hx:=HA
     have B1:=zbt BX hb1;replace kX:=kX.below_ hb1 kX.lt;clear hb1;clear zkX q0 q1 q2 q3 q4 q5 q6 q7 q8 q9 q10;obtain⟨tw,htw⟩:∃ b,(lkV (wtV s) p).isSome=b:=⟨_,rfl⟩;obtain⟨⟨y0,y1⟩,hy⟩:∃ y,(lkV (wtV s) p).getD (false,0)=y:=⟨_,rfl⟩;have hlk:=wtT_look hM p HWF.out hy htw;have HTW:Hid (((wtW s).any fun x=>decide (x.1=p))=tw):=by show _=_;rw[any_wtW,htw]
     clear htw hy hM;have BW:Below w.heap.size w (w1.alloc (.cells #[.bool y0,.int .i64 y1] 128)):=B1.alloc B1.size _
     cases tw with
     | true=>
      have HE:Hid (R=7):=by show _=_;rw[←HR.out];unfold askW;rw[if_neg HN.out,HTW.out,if_pos rfl]
      go_wp2_with fail;go_ret;exact⟨by rw[HE.out];rfl,BW⟩
     | false=>
      go_upto_region 7 with fail;obtain⟨W2,hW2⟩:∃ W2,w1.alloc (.cells #[.bool y0,.int .i64 y1] 128)=W2:=⟨_,rfl⟩;rw[hW2] at BW;have kX2:Blk W2 w.heap.size 35 (zkx s a0 c0 a1 c1 a2 c2 a3 c3 a4 c4 a5 c5 a6 c6 a7 c7).toArray:=by rw[←hW2];exact kX.alloc_ _
      obtain⟨b,off,x,rfl,hbl,hx,hc⟩:=(HA.out.sw.r0.ext BW).at_ hk;have HX:Hid (refT s.sl k=x):=by show _=_;unfold refT;rw[List.getD_eq_getElem?_getD,hx];rfl
      have cf:W2.cell? ⟨b,off+k,none⟩=some (.int .i64 x):=by
       have:=hc 0 _ rfl
       rwa [show off+k*intE.sz+0=off+k from by show off+k*1+0=_;omega] at this
      have zX2:=kX2.lt;have y1:=zc kX2 1;have i1:(k:Int)<s.sl.refs.length:=by omega
      (try rw[hW2]);clear hW2 hlk hx hc
      by_cases x0:x=0
      ·have HE:Hid (R=9):=by show _=_;rw[←HR.out];unfold askW;rw[if_neg HN.out,HTW.out,if_neg (by simp),Int.toNat_natCast,HX.out,if_pos x0]
       have x0b:(x == 0)=true:=by simpa using x0
       clear x0;go_wp2_with fail;go_ret;exact⟨by rw[HE.out];rfl,BW⟩
      ·have HE:Hid (R=0):=by show _=_;rw[←HR.out];unfold askW;rw[if_neg HN.out,HTW.out,if_neg (by simp),Int.toNat_natCast,HX.out,if_neg x0]
       have x0b:(x == 0)=false:=by simpa using x0
       clear x0;go_wp2_with fail;go_ret;exact⟨by rw[HE.out];rfl,BW⟩
    ·rw[wtok_of HOK.out] at hw
     cases hw
def hinE(s:Swp):List Int × Int:=if chkW s≠0 then ([],chkW s) else (hinW s,0)
def HiPost(R:List Int × Int)(w:World)(e:Ending)(w':World):Prop:=∃ A c,e=.returned (.tuple #[.slice A R.1.length c,.int .i64 R.2])∧SR intE w' A R.1∧Below w.heap.size w w'
theorem Hinders_any(L:Lay)(s:Swp)(w:World)(h:SwA w L s)(hz:TZ w):Calls Tryz.prog 14 #[swV L s] w (HiPost (hinE s) w):=by
 obtain⟨a0,c0,a1,c1,a2,c2,a3,c3,a4,c4,a5,c5,a6,c6,a7,c7⟩:=L;have HA:=Lib.hid h;have HZ:=Lib.hid hz;have HW0:0<w.heap.size:=hz.pos;clear h hz;unfold swV swC;obtain⟨X,hX⟩:∃ X,w.alloc (.cells (zkx s a0 c0 a1 c1 a2 c2 a3 c3 a4 c4 a5 c5 a6 c6 a7 c7).toArray 35)=X:=⟨_,rfl⟩;have kX:Blk X w.heap.size 35 (zkx s a0 c0 a1 c1 a2 c2 a3 c3 a4 c4 a5 c5 a6 c6 a7 c7).toArray:=by rw[←hX];exact zbk
 have BX:Below w.heap.size w X:=by rw[←hX];exact zbl
 obtain⟨z,hzz⟩:∃ z,chkW s=z:=⟨_,rfl⟩;have HZZ:=Lib.hid hzz;have hC:=wCheck_any ⟨a0,c0,a1,c1,a2,c2,a3,c3,a4,c4,a5,c5,a6,c6,a7,c7⟩ s X (HA.out.ext BX) (HZ.out.ext HW0 BX);rw[hzz] at hC;have HC:=Lib.hid hC;clear hC hzz;have zkX:=kX.lt;obtain⟨q0,q1,q2,q3,q4,q5,q6,q7,q8,q9,q10⟩:=zc11 kX
 go_enter Tryz.func14,Tryz.ntmps14
 go_wp2_with fail;(try rw[hX]);clear hX;refine HC.out.mono ?_;rintro e1 w1 ⟨rfl,hb1⟩;have B1:=zbt BX hb1;replace kX:=kX.below_ hb1 kX.lt;clear hb1;clear zkX q0 q1 q2 q3 q4 q5 q6 q7 q8 q9 q10
 by_cases z0:z=0
 ·subst z0
  have HOK:Hid (OkS s):=chkW_ok.1 HZZ.out;have zkX:=kX.lt;obtain⟨q0,q1,q2,q3,q4,q5,q6,q7,q8,q9,q10⟩:=zc11 kX;go_wp2_with fail;refine (hinders_any ⟨a0,c0,a1,c1,a2,c2,a3,c3,a4,c4,a5,c5,a6,c6,a7,c7⟩ s w1 (HA.out.ext B1) HOK.out).mono ?_;rintro e2 w2 ⟨A,c,rfl,hS,hb2⟩;have HS2:=Lib.hid hS;clear hS;go_wp2_with fail;refine bodyPost_ret (by simp[results,Tryz.results14,go_sem] <;> rfl) rfl ?_;have e:hinE s=(hinW s,0):=by unfold hinE;rw[HZZ.out];rfl
  rw[e];exact⟨A,c,rfl,HS2.out,B1.trans (hb2.mono B1.size)⟩
 ·have zb:(z != 0)=true:=by simpa using z0
  have e:hinE s=([],z):=by unfold hinE;rw[HZZ.out,if_pos z0]
  have HE:=Lib.hid e;clear z0 e;go_wp2_with fail;refine bodyPost_ret (by simp[results,Tryz.results14,go_sem] <;> rfl) rfl ?_;rw[HE.out];exact⟨none,0,rfl,SR.nil,B1⟩
theorem Ref_any(L:Lay)(s:Swp)(n:Int)(w:World)(h:SwA w L s)(hz:TZ w) :
  Calls Tryz.prog 26 #[swV L s,.int .i64 n] w (SwPost (addW s n).1 [.int .i64 (addW s n).2] w):=by
 obtain⟨a0,c0,a1,c1,a2,c2,a3,c3,a4,c4,a5,c5,a6,c6,a7,c7⟩:=L;have HA:=Lib.hid h;have HZ:=Lib.hid hz;have HW0:0<w.heap.size:=hz.pos;obtain⟨Q,hQ⟩:∃ Q,addW s n=Q:=⟨_,rfl⟩;rw[hQ];have HQ:=Lib.hid hQ;clear hQ h hz;unfold swV swC;obtain⟨X,hX⟩:∃ X,(w.alloc (.cells (zkx s a0 c0 a1 c1 a2 c2 a3 c3 a4 c4 a5 c5 a6 c6 a7 c7).toArray 35)).alloc (.cells zkz.toArray 35)=X:=⟨_,rfl⟩;have kX:=za1 hX;have kR:=za2 hX;have BX:Below w.heap.size w X:=by rw[←hX];exact zbl
 obtain⟨z,hzz⟩:∃ z,chkW s=z:=⟨_,rfl⟩;have HZZ:=Lib.hid hzz;have hC:=wCheck_any ⟨a0,c0,a1,c1,a2,c2,a3,c3,a4,c4,a5,c5,a6,c6,a7,c7⟩ s X (HA.out.ext BX) (HZ.out.ext HW0 BX);rw[hzz] at hC;have HC:=Lib.hid hC;clear hC hzz;have zkX:=kX.lt;obtain⟨q0,q1,q2,q3,q4,q5,q6,q7,q8,q9,q10⟩:=zc11 kX
 go_enter Tryz.func26,Tryz.ntmps26
 go_wp2_with fail;(try rw[hX]);clear hX;refine HC.out.mono ?_;rintro e1 w1 ⟨rfl,hb1⟩;have B1:=zbt BX hb1;replace kX:=kX.below_ hb1 kX.lt;replace kR:=kR.below_ hb1 kR.lt;clear hb1;clear zkX q0 q1 q2 q3 q4 q5 q6 q7 q8 q9 q10
 by_cases z0:z=0
 ·subst z0
  have HL:=Lib.hid (load_any ⟨a0,c0,a1,c1,a2,c2,a3,c3,a4,c4,a5,c5,a6,c6,a7,c7⟩ s w1 (HA.out.sw.ext B1) HA.out.few);have zkX:=kX.lt;obtain⟨q0,q1,q2,q3,q4,q5,q6,q7,q8,q9,q10⟩:=zc11 kX;go_wp2_with fail;refine HL.out.mono ?_;rintro e2 w2 ⟨B,⟨b0,k0,b1,k1,b2,k2,b3,k3,b4,k4,b5,k5,b6,k6,b7,k7⟩,rfl,K2,hb2⟩;have HKR:w.heap.size+1<w1.heap.size:=kR.lt;have HK2:=Lib.hid K2;have hBlow:w1.heap.size≤B:=K2.low;have kB:Blk w2 B 87 (zkx s b0 k0 b1 k1 b2 k2 b3 k3 b4 k4 b5 k5 b6 k6 b7 k7).toArray:=K2.blk;have hbL:w1.heap.size≤w2.heap.size:=hb2.size;have B2:=zbt B1 hb2;replace kX:=kX.below_ hb2 kX.lt;replace kR:=kR.below_ hb2 kR.lt;clear hb2;clear zkX q0 q1 q2 q3 q4 q5 q6 q7 q8 q9 q10;clear K2;obtain⟨⟨T,zt⟩,hT⟩:∃ t,addT s.sl n=t:=⟨_,rfl⟩;have HT:=Lib.hid hT;have hC:=sRef_any b0 b1 k0 k1 s.sl n w2 HK2.out.own.o0.sr HK2.out.own.o1.sr HA.out.few.f0 HA.out.few.f1;rw[hT] at hC;have HC3:=Lib.hid hC;clear hT hC;have zB:=kB.lt;obtain⟨-,u1,u2,-⟩:=zc11 kB;go_wp2_with fail;refine HC3.out.mono ?_;rintro e3 w3 ⟨A,c,A1,c1',rfl,oI,oB,hb3⟩;unfold stV;dsimp only;have kB3:=kB.below_ hb3 zB;have zB3:=kB3.lt;clear u1 u2;obtain⟨-,u1,u2,-⟩:=zc11 kB3;obtain⟨-,uf1,uf2,-⟩:=zf kB3;go_upto_region 7 with fail;obtain⟨W3,hW3⟩:∃ W3,(w3.setCell ⟨B,1,none⟩ (.slice A T.refs.length c)).setCell ⟨B,2,none⟩ (.slice A1 T.busy.length c1')=W3:=⟨_,rfl⟩;have K3:WkAt W3 w1.heap.size B ⟨A,c,A1,c1',b2,k2,b3,k3,b4,k4,b5,k5,b6,k6,b7,k7⟩ { s with sl:=T }:=by rw[←hW3];exact HK2.out.slots hb3 oI oB
  have kR3:Blk W3 (w.heap.size+1) 35 zkz.toArray:=by rw[←hW3];exact((kR.below_ hb3 kR.lt).far_ (p:=⟨B,1,none⟩) (by show _≠B;omega) _).far_ (p:=⟨B,2,none⟩) (by show _≠B;omega) _
  have B3:Below w.heap.size w W3:=by rw[←hW3];exact((B2.trans (hb3.mono B2.size)).setCell (p:=⟨B,1,none⟩) (by show w.heap.size≤B;have:=B1.size;omega) _).setCell (p:=⟨B,2,none⟩) (by show w.heap.size≤B;have:=B1.size;omega) _
  rw[hW3];clear hW3 u1 u2 uf1 uf2 oI oB
  by_cases y0:zt=0
  ·subst y0
   have HE:Hid (Q=({ s with sl:=T },0)):=by show _=_;rw[←HQ.out];unfold addW;rw[HZZ.out,if_neg (by simp),HT.out];rfl
   have kB4:Blk W3 B 87 #[.int .i64 s.cap,.slice A T.refs.length c,.slice A1 T.busy.length c1',.slice b2 s.wr.length k2,.slice b3 s.rd.length k3,.slice b4 s.desc.length k4,.slice b5 s.dk.cells.length k5,.slice b6 s.dk.jobs.length k6,.int .i64 s.dk.room,.int .i64 s.po.size,.slice b7 s.po.free.length k7]:=K3.blk;have HO3:=Lib.hid K3.own;clear K3;have ztR:=kR3.lt;have ztB:=kB4.lt;obtain⟨t0,t1,t2,t3,t4,t5,t6,t7,t8,t9,t10⟩:=zc11 kR3;obtain⟨tf0,tf1,tf2,tf3,tf4,tf5,tf6,tf7,tf8,tf9,tf10,-⟩:=zf kR3;obtain⟨u0,u1,u2,u3,u4,u5,u6,u7,u8,u9,u10⟩:=zc11 kB4;go_wp2_with fail;obtain⟨W,hW⟩:∃ W,setN W3 (w.heap.size+1) 0 [.int .i64 s.cap,.slice A T.refs.length c,.slice A1 T.busy.length c1',.slice b2 s.wr.length k2,.slice b3 s.rd.length k3,.slice b4 s.desc.length k4,.slice b5 s.dk.cells.length k5,.slice b6 s.dk.jobs.length k6,.int .i64 s.dk.room,.int .i64 s.po.size,.slice b7 s.po.free.length k7]=W:=⟨_,rfl⟩;have hWn:=zs11 hW;have kW:=zsw hW kR3;have bW:=zbw hW B3 (by omega);have oW:SwO W w1.heap.size ⟨A,c,A1,c1',b2,k2,b3,k3,b4,k4,b5,k5,b6,k6,b7,k7⟩ { s with sl:=T }:=by rw[←hW];exact HO3.out.farN HKR _
   rw[hWn];clear hWn hW t0 tf0 t1 tf1 t2 tf2 t3 tf3 t4 tf4 t5 tf5 t6 tf6 t7 tf7 t8 tf8 t9 tf9 t10 tf10;refine bodyPost_ret (by simp[results,Tryz.results26,go_sem,zc11 kW] <;> rfl) rfl ?_;rw[HE.out];exact⟨⟨A,c,A1,c1',b2,k2,b3,k3,b4,k4,b5,k5,b6,k6,b7,k7⟩,rfl,oW.base_ (by have:=B1.size;omega),bW⟩
  ·have HE:Hid (Q=(.zero,zt)):=by show _=_;rw[←HQ.out];unfold addW;rw[HZZ.out,if_neg (by simp),HT.out,if_pos (by simpa using y0)]
   have yb:(zt != 0)=true:=by simpa using y0
   clear y0 K3;have ztR:=kR3.lt;obtain⟨t0,t1,t2,t3,t4,t5,t6,t7,t8,t9,t10⟩:=zc11 kR3;obtain⟨tf0,tf1,tf2,tf3,tf4,tf5,tf6,tf7,tf8,tf9,tf10,-⟩:=zf kR3;go_wp2_with fail;obtain⟨W,hW⟩:∃ W,setN W3 (w.heap.size+1) 0 zkz=W:=⟨_,rfl⟩;have hWn:=zs11 hW;have kW:=zsw hW kR3;have bW:=zbw hW B3 (by omega);rw[hWn];clear hWn hW t0 tf0 t1 tf1 t2 tf2 t3 tf3 t4 tf4 t5 tf5 t6 tf6 t7 tf7 t8 tf8 t9 tf9 t10 tf10;refine bodyPost_ret (by simp[results,Tryz.results26,go_sem,zc11 kW] <;> rfl) rfl ?_;rw[HE.out];exact⟨.zero,rfl,SwO.zero,bW⟩
 ·have HE:Hid (Q=(.zero,z)):=by show _=_;rw[←HQ.out];unfold addW;rw[HZZ.out,if_pos (by simpa using z0)]
  have zb:(z != 0)=true:=by simpa using z0
  clear z0;have ztR:=kR.lt;obtain⟨t0,t1,t2,t3,t4,t5,t6,t7,t8,t9,t10⟩:=zc11 kR;obtain⟨tf0,tf1,tf2,tf3,tf4,tf5,tf6,tf7,tf8,tf9,tf10,-⟩:=zf kR;go_wp2_with fail;obtain⟨W,hW⟩:∃ W,setN w1 (w.heap.size+1) 0 zkz=W:=⟨_,rfl⟩;have hWn:=zs11 hW;have kW:=zsw hW kR;have bW:=zbw hW B1 (by omega);rw[hWn];clear hWn hW t0 tf0 t1 tf1 t2 tf2 t3 tf3 t4 tf4 t5 tf5 t6 tf6 t7 tf7 t8 tf8 t9 tf9 t10 tf10;refine bodyPost_ret (by simp[results,Tryz.results26,go_sem,zc11 kW] <;> rfl) rfl ?_;rw[HE.out];exact⟨.zero,rfl,SwO.zero,bW⟩
theorem find_parts{s:Swp}(h:OkS s){n p:Int}(ha:askW s n p=0):findS s.wr n=match s.wr.findIdx? (fun v=>decide (v.1=n)) with | none=>(0,6) | some i=>(i,0):=by
 obtain⟨⟨n0,n1,_,_⟩,_,_⟩:=askW_zero.1 ha;have hl:=h.len;have hc:=h.dk.cells;unfold findS;rw[chkS_zero h.wr,if_neg (by simp),if_pos (by omega)]
 cases s.wr.findIdx? (fun v=>decide (v.1=n)) <;> rfl
theorem cla_parts{s:Swp}(h:OkS s){n p:Int}(ha:askW s n p=0){i:Nat}{x:Wr}(hi:s.wr.findIdx? (fun v=>decide (v.1=n))=some i)(hx:s.wr[i]? = some x)(h0:x.2.2=0):claS s.wr n p=(setC s.wr i p,0):=by
 obtain⟨⟨_,_,p0,p1⟩,hw,_⟩:=askW_zero.1 ha;have hg:s.wr.getD i (0,0,0)=x:=by rw[List.getD_eq_getElem?_getD,hx];rfl
 have hn:s.wr.findIdx? (fun x=>decide (x.2.2=p))=none:=by
  rw[List.findIdx?_eq_none_iff];intro v hv
  refine decide_eq_false fun e => ?_
  have hm:(p,v.1) ∈ wtW s:=by
   rw[wtW_eq];exact List.mem_append_left _ (wtL_mem.2 ⟨v,hv,e,rfl,by omega⟩)
  exact hw _ hm rfl
 unfold claS;rw[find_parts h ha,hi];dsimp only;rw[if_neg (by simp),if_pos ⟨p0,p1⟩,if_neg (by simp),hg,if_neg (by simpa using h0),hn,if_neg (by simp)];unfold setC;rw[hg]
theorem SwClaim_any(L:Lay)(s:Swp)(n p:Int)(w:World)(h:SwA w L s)(hz:TZ w) :
  Calls Tryz.prog 32 #[swV L s,.int .i64 n,.int .i64 p] w (SwPost (claW s n p).1 [.int .i64 (claW s n p).2] w):=by
 obtain⟨a0,c0,a1,c1,a2,c2,a3,c3,a4,c4,a5,c5,a6,c6,a7,c7⟩:=L;have HA:=Lib.hid h;have HZ:=Lib.hid hz;have HW0:0<w.heap.size:=hz.pos;obtain⟨Q,hQ⟩:∃ Q,claW s n p=Q:=⟨_,rfl⟩;rw[hQ];have HQ:=Lib.hid hQ;clear hQ h hz;unfold swV swC;obtain⟨X,hX⟩:∃ X,(w.alloc (.cells (zkx s a0 c0 a1 c1 a2 c2 a3 c3 a4 c4 a5 c5 a6 c6 a7 c7).toArray 35)).alloc (.cells zkz.toArray 35)=X:=⟨_,rfl⟩;have kX:=za1 hX;have kR:=za2 hX;have BX:Below w.heap.size w X:=by rw[←hX];exact zbl
 obtain⟨z,hzz⟩:∃ z,chkW s=z:=⟨_,rfl⟩;have HZZ:=Lib.hid hzz;have hC:=wCheck_any ⟨a0,c0,a1,c1,a2,c2,a3,c3,a4,c4,a5,c5,a6,c6,a7,c7⟩ s X (HA.out.ext BX) (HZ.out.ext HW0 BX);rw[hzz] at hC;have HC:=Lib.hid hC;clear hC hzz;have zkX:=kX.lt;obtain⟨q0,q1,q2,q3,q4,q5,q6,q7,q8,q9,q10⟩:=zc11 kX
 go_enter Tryz.func32,Tryz.ntmps32
 go_wp2_with fail;(try rw[hX]);clear hX;refine HC.out.mono ?_;rintro e1 w1 ⟨rfl,hb1⟩;have B1:=zbt BX hb1;replace kX:=kX.below_ hb1 kX.lt;replace kR:=kR.below_ hb1 kR.lt;clear hb1;clear zkX q0 q1 q2 q3 q4 q5 q6 q7 q8 q9 q10
 by_cases z0:z=0
 ·subst z0
  have HOK:Hid (OkS s):=chkW_ok.1 HZZ.out;obtain⟨a,ha⟩:∃ a,askW s n p=a:=⟨_,rfl⟩;have HAK:=Lib.hid ha;have hC:=ask_any ⟨a0,c0,a1,c1,a2,c2,a3,c3,a4,c4,a5,c5,a6,c6,a7,c7⟩ s n p w1 (HA.out.ext B1) HOK.out;rw[ha] at hC;have HC2:=Lib.hid hC;clear hC ha;have zkX:=kX.lt;obtain⟨q0,q1,q2,q3,q4,q5,q6,q7,q8,q9,q10⟩:=zc11 kX;go_wp2_with fail;refine HC2.out.mono ?_;rintro e2 w2 ⟨rfl,hb2⟩;have B2:=zbt B1 hb2;replace kX:=kX.below_ hb2 kX.lt;replace kR:=kR.below_ hb2 kR.lt;clear hb2;clear zkX q0 q1 q2 q3 q4 q5 q6 q7 q8 q9 q10
  by_cases a0:a=0
  ·subst a0
   have HFP:=Lib.hid (find_parts HOK.out HAK.out);obtain⟨fi,hfi⟩:∃ fi,s.wr.findIdx? (fun v=>decide (v.1=n))=fi:=⟨_,rfl⟩;rw[hfi] at HFP;have HFI:=Lib.hid hfi;clear hfi
   cases fi with
   | none=>
    have HE:Hid (Q=(.zero,6)):=by show _=_;rw[←HQ.out];unfold claW;rw[HZZ.out,if_neg (by simp),HAK.out,if_neg (by simp),HFI.out]
    have zkX:=kX.lt;obtain⟨-,-,-,x3,-⟩:=zc11 kX;go_wp2_with fail;refine (Find_any a2 c2 s.wr n w2 (HA.out.sw.r2.ext B2).sw HA.out.few.f2 HFP.out).mono ?_;rintro e3 w3 ⟨rfl,hb3⟩;have B3:=zbt B2 hb3;replace kX:=kX.below_ hb3 kX.lt;replace kR:=kR.below_ hb3 kR.lt;clear hb3;clear x3 zkX;have ztR:=kR.lt;obtain⟨t0,t1,t2,t3,t4,t5,t6,t7,t8,t9,t10⟩:=zc11 kR;obtain⟨tf0,tf1,tf2,tf3,tf4,tf5,tf6,tf7,tf8,tf9,tf10,-⟩:=zf kR;go_wp2_with fail;obtain⟨W,hW⟩:∃ W,setN w3 (w.heap.size+1) 0 zkz=W:=⟨_,rfl⟩;have hWn:=zs11 hW;have kW:=zsw hW kR;have bW:=zbw hW B3 (by omega);rw[hWn];clear hWn hW t0 tf0 t1 tf1 t2 tf2 t3 tf3 t4 tf4 t5 tf5 t6 tf6 t7 tf7 t8 tf8 t9 tf9 t10 tf10;refine bodyPost_ret (by simp[results,Tryz.results32,go_sem,zc11 kW] <;> rfl) rfl ?_;rw[HE.out];exact⟨.zero,rfl,SwO.zero,bW⟩
   | some i=>
    have hi:i<s.wr.length:=by
     have:=HFI.out;rw[List.findIdx?_eq_some_iff_getElem] at this;exact this.1
    have zkX:=kX.lt;obtain⟨-,-,-,x3,-⟩:=zc11 kX;go_wp2_with fail;refine (Find_any a2 c2 s.wr n w2 (HA.out.sw.r2.ext B2).sw HA.out.few.f2 HFP.out).mono ?_;rintro e3 w3 ⟨rfl,hb3⟩;have B3:=zbt B2 hb3;replace kX:=kX.below_ hb3 kX.lt;replace kR:=kR.below_ hb3 kR.lt;clear hb3;clear x3 zkX;obtain⟨bb,off,y,hA1,hbl,hx,hc⟩:=(HA.out.sw.r2.ext B3).at_ hi;obtain⟨y0,y1,y2⟩:=y;have HX:=Lib.hid hx;have cf:w3.cell? ⟨bb,off+i*3+2,none⟩=some (.int .i64 y2):=hc 2 _ rfl;dsimp only at hA1;subst hA1;have i1:(i:Int)<s.wr.length:=by omega
    have zkX:=kX.lt;have x3:=zc kX 3;clear hx hc hi
    by_cases y20:y2=0
    ·subst y20
     have P1:=Lib.hid (cla_parts HOK.out HAK.out HFI.out HX.out rfl)
     have HE:Hid (Q=({ s with wr:=setC s.wr i p },0)):=by
      show _=_;rw[←HQ.out];unfold claW;rw[HZZ.out,if_neg (by simp),HAK.out,if_neg (by simp),HFI.out];dsimp only;rw[List.getD_eq_getElem?_getD,HX.out,if_neg (by simp)]
     have HL:=Lib.hid (load_any ⟨a0,c0,a1,c1,(some ⟨bb,off,none⟩),c2,a3,c3,a4,c4,a5,c5,a6,c6,a7,c7⟩ s w3 (HA.out.sw.ext B3) HA.out.few);clear zkX x3;have zkX:=kX.lt;obtain⟨q0,q1,q2,q3,q4,q5,q6,q7,q8,q9,q10⟩:=zc11 kX;go_wp2_with fail;refine HL.out.mono ?_;rintro e4 w4 ⟨B,⟨b0,k0,b1,k1,b2,k2,b3,k3,b4,k4,b5,k5,b6,k6,b7,k7⟩,rfl,K4,hb4⟩;have HKR:w.heap.size+1<w3.heap.size:=kR.lt;have HK4:=Lib.hid K4;have hBlow:w3.heap.size≤B:=K4.low;have kB:Blk w4 B 87 (zkx s b0 k0 b1 k1 b2 k2 b3 k3 b4 k4 b5 k5 b6 k6 b7 k7).toArray:=K4.blk;have B4:=zbt B3 hb4;replace kX:=kX.below_ hb4 kX.lt;replace kR:=kR.below_ hb4 kR.lt;clear hb4;clear zkX q0 q1 q2 q3 q4 q5 q6 q7 q8 q9 q10;clear K4 cf;have hA:=Claim_own b2 k2 s.wr n p w4 HK4.out.own.o2.sr.sw HA.out.few.f2;rw[P1.out] at hA;have HC5:=Lib.hid hA;clear hA;have zB:=kB.lt;obtain⟨-,-,-,u3,-⟩:=zc11 kB;go_wp2_with fail;refine HC5.out.mono ?_;rintro e5 w5 ⟨A,c,rfl,hcw,hb5,hmine⟩;dsimp only at hcw hmine;dsimp only;have hlen:=hcw.2;have kB5:=kB.below_ hb5 zB;have zB5:=kB5.lt;clear u3 hcw;obtain⟨-,-,-,u3,-⟩:=zc11 kB5;have uf3:=kB5.frozen_ 3;go_upto_region 16 with fail;obtain⟨W5,hW5⟩:∃ W5,w5.setCell ⟨B,3,none⟩ (.slice A (setC s.wr i p).length c)=W5:=⟨_,rfl⟩;have K5:WkAt W5 w3.heap.size B ⟨b0,k0,b1,k1,A,c,b3,k3,b4,k4,b5,k5,b6,k6,b7,k7⟩ { s with wr:=setC s.wr i p }:=by rw[←hW5];exact HK4.out.writes hb5 (OwnM.of_mine hmine hlen)
     have kR5:Blk W5 (w.heap.size+1) 35 zkz.toArray:=by rw[←hW5];exact(kR.below_ hb5 kR.lt).far_ (p:=⟨B,3,none⟩) (by show _≠B;omega) _
     have B5:Below w.heap.size w W5:=by rw[←hW5];exact(B4.trans (hb5.mono B4.size)).setCell (p:=⟨B,3,none⟩) (by show w.heap.size≤B;have:=B3.size;omega) _
     rw[hW5];clear hW5 u3 uf3;obtain⟨S5,hS5⟩:∃ S5,{ s with wr:=setC s.wr i p }=S5:=⟨_,rfl⟩;rw[hS5] at K5 HE;have kB6:Blk W5 B 87 (zkx S5 b0 k0 b1 k1 A c b3 k3 b4 k4 b5 k5 b6 k6 b7 k7).toArray:=K5.blk;have HO5:=Lib.hid K5.own;clear K5 hS5;have ztR:=kR5.lt;have ztB:=kB6.lt;obtain⟨t0,t1,t2,t3,t4,t5,t6,t7,t8,t9,t10⟩:=zc11 kR5;obtain⟨tf0,tf1,tf2,tf3,tf4,tf5,tf6,tf7,tf8,tf9,tf10,-⟩:=zf kR5;obtain⟨u0,u1,u2,u3,u4,u5,u6,u7,u8,u9,u10⟩:=zc11 kB6;go_wp2_with fail;obtain⟨W,hW⟩:∃ W,setN W5 (w.heap.size+1) 0 (zkx S5 b0 k0 b1 k1 A c b3 k3 b4 k4 b5 k5 b6 k6 b7 k7)=W:=⟨_,rfl⟩;have hWn:=zs11 hW;have kW:=zsw hW kR5;have bW:=zbw hW B5 (by omega);have oW:SwO W w3.heap.size ⟨b0,k0,b1,k1,A,c,b3,k3,b4,k4,b5,k5,b6,k6,b7,k7⟩ S5:=by rw[←hW];exact HO5.out.farN HKR _
     rw[hWn];clear hWn hW t0 tf0 t1 tf1 t2 tf2 t3 tf3 t4 tf4 t5 tf5 t6 tf6 t7 tf7 t8 tf8 t9 tf9 t10 tf10;refine bodyPost_ret (by simp[results,Tryz.results32,go_sem,zc11 kW] <;> rfl) rfl ?_;rw[HE.out];exact⟨⟨b0,k0,b1,k1,A,c,b3,k3,b4,k4,b5,k5,b6,k6,b7,k7⟩,rfl,oW.base_ (by have:=B3.size;omega),bW⟩
    ·have HE:Hid (Q=(.zero,10)):=by
      show _=_;rw[←HQ.out];unfold claW;rw[HZZ.out,if_neg (by simp),HAK.out,if_neg (by simp),HFI.out];dsimp only;rw[List.getD_eq_getElem?_getD,HX.out,if_pos (by simpa using y20)]
     have yb:(y2 != 0)=true:=by simpa using y20
     clear y20;have ztR:=kR.lt;obtain⟨t0,t1,t2,t3,t4,t5,t6,t7,t8,t9,t10⟩:=zc11 kR;obtain⟨tf0,tf1,tf2,tf3,tf4,tf5,tf6,tf7,tf8,tf9,tf10,-⟩:=zf kR;go_wp2_with fail;obtain⟨W,hW⟩:∃ W,setN w3 (w.heap.size+1) 0 zkz=W:=⟨_,rfl⟩;have hWn:=zs11 hW;have kW:=zsw hW kR;have bW:=zbw hW B3 (by omega);rw[hWn];clear hWn hW t0 tf0 t1 tf1 t2 tf2 t3 tf3 t4 tf4 t5 tf5 t6 tf6 t7 tf7 t8 tf8 t9 tf9 t10 tf10;refine bodyPost_ret (by simp[results,Tryz.results32,go_sem,zc11 kW] <;> rfl) rfl ?_;rw[HE.out];exact⟨.zero,rfl,SwO.zero,bW⟩
  ·/- asked in vain -/
   have HE:Hid (Q=(.zero,a)):=by show _=_;rw[←HQ.out];unfold claW;rw[HZZ.out,if_neg (by simp),HAK.out,if_pos (by simpa using a0)]
   have ab:(a != 0)=true:=by simpa using a0
   clear a0;have ztR:=kR.lt;obtain⟨t0,t1,t2,t3,t4,t5,t6,t7,t8,t9,t10⟩:=zc11 kR;obtain⟨tf0,tf1,tf2,tf3,tf4,tf5,tf6,tf7,tf8,tf9,tf10,-⟩:=zf kR;go_wp2_with fail;obtain⟨W,hW⟩:∃ W,setN w2 (w.heap.size+1) 0 zkz=W:=⟨_,rfl⟩;have hWn:=zs11 hW;have kW:=zsw hW kR;have bW:=zbw hW B2 (by omega);rw[hWn];clear hWn hW t0 tf0 t1 tf1 t2 tf2 t3 tf3 t4 tf4 t5 tf5 t6 tf6 t7 tf7 t8 tf8 t9 tf9 t10 tf10;refine bodyPost_ret (by simp[results,Tryz.results32,go_sem,zc11 kW] <;> rfl) rfl ?_;rw[HE.out];exact⟨.zero,rfl,SwO.zero,bW⟩
 ·have HE:Hid (Q=(.zero,z)):=by show _=_;rw[←HQ.out];unfold claW;rw[HZZ.out,if_pos (by simpa using z0)]
  have zb:(z != 0)=true:=by simpa using z0
  clear z0;have ztR:=kR.lt;obtain⟨t0,t1,t2,t3,t4,t5,t6,t7,t8,t9,t10⟩:=zc11 kR;obtain⟨tf0,tf1,tf2,tf3,tf4,tf5,tf6,tf7,tf8,tf9,tf10,-⟩:=zf kR;go_wp2_with fail;obtain⟨W,hW⟩:∃ W,setN w1 (w.heap.size+1) 0 zkz=W:=⟨_,rfl⟩;have hWn:=zs11 hW;have kW:=zsw hW kR;have bW:=zbw hW B1 (by omega);rw[hWn];clear hWn hW t0 tf0 t1 tf1 t2 tf2 t3 tf3 t4 tf4 t5 tf5 t6 tf6 t7 tf7 t8 tf8 t9 tf9 t10 tf10;refine bodyPost_ret (by simp[results,Tryz.results32,go_sem,zc11 kW] <;> rfl) rfl ?_;rw[HE.out];exact⟨.zero,rfl,SwO.zero,bW⟩
theorem rdE_flat(l:List Wr):rdE.flat l=cellsW l:=by
 unfold cellsW
 induction l with
 | nil=>rfl
 | cons x l ih=>
  show Value.int .i64 x.1::.int .i64 x.2.1::.int .i64 x.2.2::rdE.flat l=_;rw[ih];rfl
theorem rdE_put{w:World}{base c:Nat}{A:Option Addr}{l:List Wr}{i:Nat}{x:Wr}(h:OwnE rdE w base A c l)(hx:l[i]? = some x) :
  ∃ g cur,A=some ⟨g,0,none⟩∧base≤g∧Blk w g rdE.e cur∧w.cell? ⟨g,i*3+2,none⟩=some (.int .i64 x.2.2)∧∀ p,OwnE rdE (w.setCell ⟨g,i*3+2,none⟩ (.int .i64 p)) base A c (l.set i (x.1,x.2.1,p)):=by
 obtain⟨hi,ei⟩:=List.getElem?_eq_some_iff.1 hx;have hr:OwnR rdE w base (.slice A l.length c) l:=h.own.resolve_left (fun e=>by rw[e] at hi;simp at hi);obtain⟨g,cur,rfl,_,hg,hB,h1,h2,h3,h4⟩:=hr.blk (by omega);refine⟨g,cur,rfl,hg,hB,?_,fun p => ?_⟩
 ·obtain⟨b,off,y,e,_,hy,hc⟩:=hr.sr.2.at_ hi
  injection e with e
  injection e with e1 e2
  subst e1 e2;rw[hx] at hy;injection hy with hy
  subst hy;have:=hc 2 _ rfl
  rwa [show 0+i*rdE.sz+2=i*3+2 from by show 0+i*3+2=_;omega] at this
 ·have key:OwnR rdE (w.setCell ⟨g,i*3+2,none⟩ (.int .i64 p)) base (.slice (some ⟨g,0,none⟩) (l.set i (x.1,x.2.1,p)).length c) (l.set i (x.1,x.2.1,p)):=by
   unfold OwnR;refine⟨rdE.flat_length _,.inr ⟨g,c,cur.setIfInBounds (i*3+2) (.int .i64 p),rfl,hg,hB.set_ _ _,by rw[List.length_set];exact h1,h2,by simpa using h3,?_⟩⟩;rw[List.length_set,Array.toList_setIfInBounds,List.take_set,h4,rdE_flat,rdE_flat];unfold cellsW;rw[flat_set p l i x hx,List.map_set]
  exact⟨.inr key,.inr key⟩
section
variable {w w1 : World} {base B : Nat} {L : Lay} {s : Swp}
theorem WkAt.desc(h:WkAt w base B L s)(hb1:Below base w w1)(hk1:KeptE L.a4 L.c4 w w1){A:Option Addr}{c:Nat}{l:List Int}(hn:Near L.a4 L.c4 w A)(oI:OwnE intE w1 base A c l) :
  WkAt (w1.setCell ⟨B,5,none⟩ (.slice A l.length c)) base B { L with a4:=A,c4:=c } { s with desc:=l }:=by
 have hk:=hk1.blk h.blk (h.own.o4.notT h.blk (by decide));have m:=h.own.keptD hk1
 have m2:SwO w1 base { L with a4:=A,c4:=c } { s with desc:=l }:=
  ⟨m.o0,m.o1,m.o2,m.o3,oI,m.o5,m.o6,m.o7,h.own.p0.near h.own.o0 hn,h.own.p7.near h.own.o7 hn⟩
 exact⟨hk.set_ 5 _,m2.farB hk 5 _,h.low⟩
theorem WkAt.farV(h:WkAt w base B L s){b:Nat}{cs:Array Value}(hV:Blk w b 106 cs)(i:Nat)(u:Value)(o2:OwnM wrE (w.setCell ⟨b,i,none⟩ u) base L.a2 L.c2 s.wr):WkAt (w.setCell ⟨b,i,none⟩ u) base B L s:=by
 have hne:B≠b:=by
  intro e2;have h1:=h.blk;rw[e2] at h1;unfold Blk at h1 hV;rw[hV] at h1;injection h1 with h1
  injection h1 with _ h1
  revert h1
  decide
 have x:=h.own;exact⟨h.blk.far_ (p:=⟨b,i,none⟩) hne u,⟨x.o0.farB hV (by decide) _ _,x.o1.farB hV (by decide) _ _,o2,x.o3.farB hV (by decide) _ _,x.o4.farB hV (by decide) _ _,x.o5.farB hV (by decide) _ _,x.o6.farB hV (by decide) _ _,x.o7.farB hV (by decide) _ _,x.p0,x.p7⟩,h.low⟩
theorem KeptE.of_grown{g c:Nat}(hg:w.grownBy w1 (some g))(hc:c≠0):KeptE (some ⟨g,0,none⟩) c w w1:=fun b hb hn=>hg.block b hb (fun e=>hn hc (by simpa using e.symm))
end
def KeepT(w w':World):Prop:=∀ b t cs,Blk w b t cs→t≠87→t≠100→Blk w' b t cs
theorem Blk.ne{w:World}{b b':Nat}{t t':TypeId}{cs cs':Array Value}(h:Blk w b t cs)(h':Blk w b' t' cs')(ht:t≠t'):b≠b':=by
 intro e;subst e;unfold Blk at h h';rw[h] at h';injection h' with h1
 injection h1 with _ h1
 exact ht h1
def RmF(W:List Wr)(x:Wr)(v:Value)(lo _hi:Nat)(w:World):Prop:=∃ A c,v=.tuple #[.slice A W.length c,.agg #[.int .i64 x.1,.int .i64 x.2.1,.int .i64 x.2.2],.int .i64 0]∧OwnM wrE w lo A c W
theorem RmF.lasts(W:List Wr)(x:Wr):(Fk.has (RmF W x)).lasts:=fun _ _ _ _ _ ⟨A,c,e,h⟩ hb=>⟨A,c,e,h.ext hb⟩
theorem end_wr(base B:Nat)(L:Lay)(s:Swp)(j:Jb)(w:World)(h:WkAt w base B L s)(f2:s.wr.length≤1000)(f3:s.rd.length≤1000)(hj:j.wr=true){W:List Wr}{v:Wr}(h1:remS s.wr j.slot=(W,v,0)) :
  Calls Tryz.prog 140 #[.pointer (some ⟨B,0,none⟩),jbV j] w fun e w'=>e=.returned (.tuple #[.int .i64 v.2.2,.int .i64 0])∧(∃ L',WkAt w' base B L' { s with wr:=W })∧Below base w w'∧KeepT w w':=by
 obtain⟨a0,c0,a1,c1,a2,c2,a3,c3,a4,c4,a5,c5,a6,c6,a7,c7⟩:=L;obtain⟨jw,js_,jf,⟨e0,e1,e2,e3,e4,e5,e6,e7⟩⟩:=j;dsimp only at hj h1;subst hj;show Calls _ _ #[_,.agg (zkj true js_ jf e0 e1 e2 e3 e4 e5 e6 e7).toArray] _ _;have hlow:=h.low;have hbw:base≤w.heap.size:=by have:=h.lt;omega
 obtain⟨X,hX⟩:∃ X,(w.alloc (.cells (zkj true js_ jf e0 e1 e2 e3 e4 e5 e6 e7).toArray 115)).alloc (.cells #[.int .i64 0,.int .i64 0,.int .i64 0] 106)=X:=⟨_,rfl⟩;have BX:Below w.heap.size w X:=by rw[←hX];exact zbl
 have kJ:=za1 hX;have kV:=za2 hX;have K:=h.ext BX;have HK:=Lib.hid K;have kB:Blk X B 87 (zkx s a0 c0 a1 c1 a2 c2 a3 c3 a4 c4 a5 c5 a6 c6 a7 c7).toArray:=K.blk;have hBV:B<w.heap.size:=h.lt;have hXs:w.heap.size+1<X.heap.size:=kV.lt
 have hD:∀ V,Below X.heap.size X V→_:=fun V hV=>Remove_own a2 c2 s.wr js_ V ⟨(HK.out.own.o2.sr.ext hV).sw,HK.out.own.o2.len⟩ f2
 rw[h1] at hD;have HD:=Lib.hid hD;have hbX:base≤X.heap.size:=Nat.le_trans hbw BX.size;clear h h1 hD K;have zJ0:=kJ.lt;have zV0:=kV.lt;obtain⟨qj0,-⟩:=zc11 kJ
 go_enter Tryz.func140,Tryz.ntmps140
 go_upto_region 3 with fail;(try rw[hX]);clear hX qj0 zJ0 zV0;refine zrg [0,0,0,0,0,1,0,1,2,0,0,0,0,0,0,0,3,3,0] [[],[],[],[],[],[],[],[],[],[8],[9],[9],[9],[],[],[],[],[],[12]] [.is ?_,.is ?_,.is ?_,.is ?_,.is ?_,.kn ?_,.is ?_,.kn ?_,.has (RmF W v),.fn [8] fst_,.fn [9] (fun l=>tupAt (fst_ l) 0),.fn [9] (fun l=>tupAt (fst_ l) 1),.fn [9] (fun l=>tupAt (fst_ l) 2),.is ?_,.is ?_,.is ?_,.late,.late,.fn [12] fst_] [16,17] (lts_is (lts_is (lts_is (lts_is (lts_is (lts_kn (lts_is (lts_kn (lts_has (RmF.lasts W v) (lts_fn (lts_fn (lts_fn (lts_fn (lts_is (lts_is (lts_is (lts_late (lts_late (lts_fn lts_nil))))))))))))))))))) (fun W0 hb0 hz0 => ?_)
 rotate_left 11
 have kW:=kB.below_ hb0 kB.lt;have kJ0:=kJ.below_ hb0 kJ.lt;have zW:=kW.lt;have zJ:=kJ0.lt;obtain⟨-,-,-,p3,-⟩:=zc11 kW;obtain⟨-,p1,-⟩:=zc11 kJ0;refine zqp ?_;refine zqp ?_;refine zqp ?_;refine zqp ?_;refine zqp ?_;refine zqT (fun w hbw hd => ?_) ?_
 ·have r3:=cell_keep hbw p3 zW
  exact zgs
 refine zqp ?_;refine zqT (fun w hbw hd => ?_) ?_
 ·have r1:=cell_keep hbw p1 zJ
  exact zgs
 refine zqh (fun w hbw hd K Q' hK => ?_) (fun vew8 => ?_)
 ·clear hd
  go_simp;refine (HD.out _ (hb0.trans (hbw.mono hb0.size))).mono ?_;rintro e y ⟨A3,d3,rfl,hcw,hy,hm⟩;go_wp2_with fail;exact hK.out (.tuple #[.slice A3 W.length d3,.agg #[.int .i64 v.1,.int .i64 v.2.1,.int .i64 v.2.2],.int .i64 0]) _ _ zpt zbm ⟨A3,d3,rfl,OwnM.of_mine hm hcw.2⟩
 refine zqf (vew8) ?_;refine zqF (tupAt (vew8) 0) (fun w0 hd w => ?_) ?_
 ·obtain⟨_,_,A3,d3,rfl,_⟩:∃ lo hi,RmF W v vew8 lo hi w0:=hd 8 _ _ (by kernel_rfl) rfl rfl
  exact zsr
 refine zqF (tupAt (vew8) 1) (fun w0 hd w => ?_) ?_
 ·obtain⟨_,_,A3,d3,rfl,_⟩:∃ lo hi,RmF W v vew8 lo hi w0:=hd 8 _ _ (by kernel_rfl) rfl rfl
  exact zsr
 refine zqF (tupAt (vew8) 2) (fun w0 hd w => ?_) ?_
 ·obtain⟨_,_,A3,d3,rfl,_⟩:∃ lo hi,RmF W v vew8 lo hi w0:=hd 8 _ _ (by kernel_rfl) rfl rfl
  exact zsr
 refine zqp ?_;refine zqp ?_;refine zqp ?_;refine zql ?_;refine zql ?_;refine zqf (tupAt (vew8) 2) ?_;refine chn_end (fun wz lo hi hbz hd hR => ?_);obtain⟨A3,d3,rfl,oM⟩:RmF W v vew8 (lo 8) (hi 8) wz:=hd 8 _ _ rfl rfl;have r9:=(hR.2 8 _ rfl).1;have hsz:=hb0.size;have BZ:Below X.heap.size X wz:=hb0.trans (hbz.mono hsz);have kBz:=kB.below_ BZ kB.lt;have zBz:=kBz.lt;have kVz:=kV.below_ BZ kV.lt;have zVz:=kVz.lt;clear hd hR p3 p1;obtain⟨-,-,-,m3,-⟩:=zc11 kBz;have mf3:=kBz.frozen_ 3;obtain⟨n0,n1,n2⟩:=zc3 kVz;obtain⟨nf0,nf1,nf2,-⟩:=zf kVz;simp only[tupAt,List.getD_cons_succ,List.getD_cons_zero,Array.getD_eq_getD_getElem?,zy5,zy6,zy7,Option.getD_some];refine late_cons (by kernel_rfl) (by simp only[zy5,zy6,zy7];rfl) (fun K Q' hK => ?_);go_simp;refine hK.out _ ?_;clear hK K Q';refine late_cons (by kernel_rfl) (by simp only[zy5,zy6,zy7];rfl) (fun K Q' hK => ?_);go_simp;refine hK.out _ ?_;clear hK K Q';refine late_none ?_;obtain⟨W3,hW3⟩:∃ W3,(((wz.setCell ⟨B,3,none⟩ (.slice A3 W.length d3)).setCell ⟨w.heap.size+1,0,none⟩ (.int .i64 v.1)).setCell ⟨w.heap.size+1,1,none⟩ (.int .i64 v.2.1)).setCell ⟨w.heap.size+1,2,none⟩ (.int .i64 v.2.2)=W3:=⟨_,rfl⟩
 have K3:WkAt W3 base B ⟨a0,c0,a1,c1,A3,d3,a3,c3,a4,c4,a5,c5,a6,c6,a7,c7⟩ { s with wr:=W }:=by
  rw[←hW3];have hlo:base≤lo 8:=by omega
  have hVlo:w.heap.size+1<lo 8:=by omega
  have k0:WkAt _ base B ⟨a0,c0,a1,c1,A3,d3,a3,c3,a4,c4,a5,c5,a6,c6,a7,c7⟩ { s with wr:=W }:=HK.out.writes BZ (oM.base_ (by omega));have m0:=oM.farB kBz (by decide) 3 (.slice A3 W.length d3);have kV1:Blk _ (w.heap.size+1) _ _:=kVz.far_ (p:=⟨B,3,none⟩) (by show _≠B;omega) (.slice A3 W.length d3);have m1:=m0.far (p:=⟨w.heap.size+1,0,none⟩) hVlo (.int .i64 v.1);have k1:=k0.farV kV1 0 (.int .i64 v.1) (m1.base_ hlo);have kV2:=kV1.set_ 0 (.int .i64 v.1);have m2:=m1.far (p:=⟨w.heap.size+1,1,none⟩) hVlo (.int .i64 v.2.1);have k2:=k1.farV kV2 1 (.int .i64 v.2.1) (m2.base_ hlo);have kV3:=kV2.set_ 1 (.int .i64 v.2.1);have m3:=m2.far (p:=⟨w.heap.size+1,2,none⟩) hVlo (.int .i64 v.2.2);exact k2.farV kV3 2 (.int .i64 v.2.2) (m3.base_ hlo)
 have kV3:Blk W3 (w.heap.size+1) 106 #[.int .i64 v.1,.int .i64 v.2.1,.int .i64 v.2.2]:=by
  rw[←hW3];have kV1:Blk _ (w.heap.size+1) _ _:=kVz.far_ (p:=⟨B,3,none⟩) (by show _≠B;omega) (.slice A3 W.length d3);exact((kV1.set_ 0 _).set_ 1 _).set_ 2 _
 have B3:Below base w W3:=by rw[←hW3];exact((((BX.mono hbw).trans (BZ.mono hbX)).setCell (p:=⟨B,3,none⟩) hlow _).setCell (p:=⟨w.heap.size+1,0,none⟩) (by show base≤w.heap.size+1;omega) _).setCell (p:=⟨w.heap.size+1,1,none⟩) (by show base≤w.heap.size+1;omega) _ |>.setCell (p:=⟨w.heap.size+1,2,none⟩) (by show base≤w.heap.size+1;omega) _
 have HK3:=Lib.hid K3
 have HKT:Hid (KeepT w W3):=by
  show KeepT _ _;intro b t cs hb h1 h2;have hbl:=hb.lt;have hbX:=hb.below_ BX hbl;have x0:=hbX.below_ BZ hbX.lt;have hne:=Blk.ne x0 kBz h1;rw[←hW3];exact(((x0.far_ (p:=⟨B,3,none⟩) hne _).far_ (p:=⟨w.heap.size+1,0,none⟩) (by show b≠w.heap.size+1;omega) _).far_ (p:=⟨w.heap.size+1,1,none⟩) (by show b≠w.heap.size+1;omega) _).far_ (p:=⟨w.heap.size+1,2,none⟩) (by show b≠w.heap.size+1;omega) _
 rw[hW3];clear hW3 K3 m3 mf3 n0 n1 n2 nf0 nf1 nf2 kVz kBz zVz zBz;have zV3:=kV3.lt;obtain⟨-,-,n2⟩:=zc3 kV3;go_wp2_with fail;refine bodyPost_ret (by simp[results,Tryz.results140,go_sem] <;> rfl) rfl ?_;exact⟨rfl,⟨⟨a0,c0,a1,c1,A3,d3,a3,c3,a4,c4,a5,c5,a6,c6,a7,c7⟩,HK3.out⟩,B3,HKT.out⟩
theorem end_rd(base B:Nat)(L:Lay)(s:Swp)(j:Jb)(w:World)(h:WkAt w base B L s)(f2:s.wr.length≤1000)(f3:s.rd.length≤1000)(hj:j.wr=false){i:Nat}{v:Wr}(hx:s.rd[i]? = some v)(h1:s.rd.findIdx? (fun v=>decide (v.1=j.slot))=some i) :
  Calls Tryz.prog 140 #[.pointer (some ⟨B,0,none⟩),jbV j] w fun e w'=>e=.returned (.tuple #[.int .i64 v.2.2,.int .i64 0])∧(∃ L',WkAt w' base B L' { s with rd:=s.rd.eraseIdx i })∧Below base w w'∧KeepT w w':=by
 obtain⟨a0,c0,a1,c1,a2,c2,a3,c3,a4,c4,a5,c5,a6,c6,a7,c7⟩:=L;obtain⟨jw,js_,jf,⟨e0,e1,e2,e3,e4,e5,e6,e7⟩⟩:=j;dsimp only at hj h1;subst hj;show Calls _ _ #[_,.agg (zkj false js_ jf e0 e1 e2 e3 e4 e5 e6 e7).toArray] _ _;have hlow:=h.low;have hbw:base≤w.heap.size:=by have:=h.lt;omega
 obtain⟨X,hX⟩:∃ X,w.alloc (.cells (zkj false js_ jf e0 e1 e2 e3 e4 e5 e6 e7).toArray 115)=X:=⟨_,rfl⟩;have BX:Below w.heap.size w X:=by rw[←hX];exact zbl
 have kJ:=za hX;have K:=h.ext BX;have HK:=Lib.hid K;have kB:Blk X B 87 (zkx s a0 c0 a1 c1 a2 c2 a3 c3 a4 c4 a5 c5 a6 c6 a7 c7).toArray:=K.blk;have hi:i<s.rd.length:=(List.getElem?_eq_some_iff.1 hx).1;have i1:(i:Int)<s.rd.length:=by omega
 have zJ0:=kJ.lt;obtain⟨qj0,qj1,-⟩:=zc11 kJ;have hC:=ixR_any a3 c3 s.rd w.heap.size js_ X K.own.o3.sr f3 qj1 zJ0;rw[h1] at hC;have HC:=Lib.hid hC;have HX:=Lib.hid hx;have hbX:base≤X.heap.size:=Nat.le_trans hbw BX.size;have zB:=kB.lt;obtain⟨-,-,-,-,u4,-⟩:=zc11 kB;have hi0:decide ((i:Int)<0)=false:=decide_eq_false (by omega);clear h h1 hC K hx
 go_enter Tryz.func140,Tryz.ntmps140
 go_wp2_with fail;(try rw[hX]);clear hX qj0 qj1 u4;refine HC.out.mono ?_;rintro e1_ w1 ⟨rfl,hb1⟩;have K1:=HK.out.ext hb1;have HK1:=Lib.hid K1;have kB1:Blk w1 B 87 (zkx s a0 c0 a1 c1 a2 c2 a3 c3 a4 c4 a5 c5 a6 c6 a7 c7).toArray:=K1.blk;have zB1:=kB1.lt;obtain⟨g,cur,rfl,hg,hG,hgc,_⟩:=rdE_put K1.own.o3 HX.out;have zG:=hG.lt;have u4:=zc kB1 4;have hb1s:base≤w1.heap.size:=Nat.le_trans hbX hb1.size;have hO3:OwnR rdE w1 base (.slice (some ⟨g,0,none⟩) s.rd.length c3) s.rd:=K1.own.o3.own.resolve_left (fun e=>by rw[e] at hi;simp at hi);have HDL:=Lib.hid (DelR_any g c3 base s.rd i w1 hO3 hi f3);have hc0:c3≠0:=by have:s.rd.length≤c3:=K1.own.o3.cr.2;omega
 clear K1 hO3;unfold idxI;go_wp2_with fail;refine HDL.out.mono ?_;rintro e2_ w2 ⟨rfl,hO2,hg2,hs2⟩;have hk2:=KeptE.of_grown (c:=c3) hg2 hc0;have B2:Below base w1 w2:=(Below.refl base w1).grown hg2 hb1s (fun r er=>by cases er;exact hg);have kB2:=hk2.blk kB1 (HK1.out.own.o3.notT HK1.out.blk (by decide));have zB2:=kB2.lt;have hel:(s.rd.eraseIdx i).length=s.rd.length - 1:=by rw[List.length_eraseIdx];simp[hi]
 have hO4:OwnE rdE w2 base (some ⟨g,0,none⟩) c3 (s.rd.eraseIdx i):=by
  have:OwnR rdE w2 base (.slice (some ⟨g,0,none⟩) (s.rd.eraseIdx i).length c3) (s.rd.eraseIdx i):=by rw[hel];exact hO2
  exact⟨.inr this,.inr this⟩
 have HK3:=Lib.hid (HK1.out.reads B2 hk2 hO4);rw[hel] at HK3
 have HKT:Hid (KeepT w (w2.setCell ⟨B,4,none⟩ (.slice (some ⟨g,0,none⟩) (s.rd.length - 1) c3))):=by
  show KeepT _ _;intro b t cs hb h1 h2;have hbX:=hb.below_ BX hb.lt;have x0:=hbX.below_ hb1 hbX.lt;have x1:Blk w2 b t cs:=(hg2.block b x0.lt (by simpa using Blk.ne x0 hG h2)).trans x0;exact x1.far_ (p:=⟨B,4,none⟩) (Blk.ne x1 kB2 h1) _
 clear hel u4 hgc;have u4:=zc kB2 4;have uf4:=kB2.frozen_ 4;go_wp2_with fail;refine bodyPost_ret (by simp[results,Tryz.results140,go_sem] <;> rfl) rfl ?_;exact⟨rfl,⟨⟨a0,c0,a1,c1,a2,c2,some ⟨g,0,none⟩,c3,a4,c4,a5,c5,a6,c6,a7,c7⟩,HK3.out⟩,(((BX.mono hbw).trans (hb1.mono hbX)).trans B2).setCell (p:=⟨B,4,none⟩) hlow _,HKT.out⟩
end Go.Proofs.YthijbipidbjpfaaGreatDoor
