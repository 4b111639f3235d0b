import Derived.Test.YthijbipidbjpfaaGreatDoorZP20
import Derived.Test.YthijbipidbjpfaaGreatDoorZP00
import Derived.Test.YthijbipidbjpfaaGreatDoorZP03
import Derived.Test.YthijbipidbjpfaaGreatDoorZP14
import Derived.Test.YthijbipidbjpfaaGreatDoorZP15
import Derived.Test.YthijbipidbjpfaaGreatDoorZP04
set_option linter.unusedSimpArgs false
set_option linter.unusedVariables false
set_option maxRecDepth 100000
set_option maxHeartbeats 8000000
namespace Go.Proofs.YthijbipidbjpfaaGreatDoor
open Go.RowKit Go.Maps
theorem hit_end{s:Swp}(hw:wtok s=true){T:Sts}{k:Nat}{left:Int→Bool}(h:∀ p v,lkV (wtV s) p=some v→left p=false→¬ (v.2=(k:Int)∧refT T k=0))(hd:∀ p v,lkV (wtV s) p=some v→left p=false):¬ (refT T k=0∧((wtW s).any fun x=>decide (x.2=(k:Int)))=true):=by
 rintro ⟨h1,h2⟩;obtain⟨x,hx,e⟩:=List.any_eq_true.1 h2;rw[wtV_wtW] at hx;obtain⟨y,hy,rfl⟩:=List.mem_map.1 hx;have hl:=(wtV_lk s hw (p:=y.1) (v:=y.2)).2 hy;exact h _ _ hl (hd _ _ hl) ⟨by simpa using e,h1⟩
theorem hit_now{s:Swp}(hw:wtok s=true){k:Nat}{p:Int}{v:Bool × Int}(hl:lkV (wtV s) p=some v)(e:v.2=(k:Int)):((wtW s).any fun x=>decide (x.2=(k:Int)))=true:=by
 refine List.any_eq_true.2 ⟨(p,v.2),?_,by simpa using e⟩;rw[wtV_wtW];exact List.mem_map.2 ⟨_,(wtV_lk s hw).1 hl,rfl⟩
theorem hit_step{m:Int→Option (Bool × Int)}{left:Int→Bool}{P:Int→Prop}(h:∀ p v,m p=some v→left p=false→¬ P v.2){p0:Int}{v0:Bool × Int}(hk:m p0=some v0)(hn:¬ P v0.2) :
  ∀ p v,m p=some v→(left p && !decide (p=p0))=false→¬ P v.2:=fun p v hp hl=>by
 by_cases e:p=p0
 ·subst e
  rw[hk] at hp;injection hp with hp
  subst hp;exact hn
 ·exact h p v hp (by simpa [e] using hl)
theorem Unref_any(L:Lay)(s:Swp)(n:Int)(w:World)(h:SwA w L s)(hz:TZ w) :
  Calls Tryz.prog 28 #[swV L s,.int .i64 n] w (SwPost (unrW s n).1 [.bool (unrW s n).2.1,.int .i64 (unrW s n).2.2] w):=by
 obtain⟨a0,c0,a1,c1,a2,c2,a3,c3,a4,c4,a5,c5,a6,c6,a7,c7⟩:=L;have HA:=Lib.hid h;have HZ:=Lib.hid hz;have HW0:0<w.heap.size:=hz.pos;obtain⟨Q,hQ⟩:∃ Q,unrW s n=Q:=⟨_,rfl⟩;rw[hQ];have HQ:=Lib.hid hQ;clear hQ h hz;unfold swV swC;obtain⟨X,hX⟩:∃ X,(w.alloc (.cells (zkx s a0 c0 a1 c1 a2 c2 a3 c3 a4 c4 a5 c5 a6 c6 a7 c7).toArray 35)).alloc (.cells zkz.toArray 35)=X:=⟨_,rfl⟩;have kX:=za1 hX;have kR:=za2 hX;have BX:Below w.heap.size w X:=by rw[←hX];exact zbl
 obtain⟨z,hzz⟩:∃ z,chkW s=z:=⟨_,rfl⟩;have HZZ:=Lib.hid hzz;have hC:=wCheck_any ⟨a0,c0,a1,c1,a2,c2,a3,c3,a4,c4,a5,c5,a6,c6,a7,c7⟩ s X (HA.out.ext BX) (HZ.out.ext HW0 BX);rw[hzz] at hC;have HC:=Lib.hid hC;clear hC hzz;have zkX:=kX.lt;obtain⟨q0,q1,q2,q3,q4,q5,q6,q7,q8,q9,q10⟩:=zc11 kX
 go_enter Tryz.func28,Tryz.ntmps28
 go_wp2_with fail;(try rw[hX]);clear hX;refine HC.out.mono ?_;rintro e1 w1 ⟨rfl,hb1⟩;have B1:=zbt BX hb1;replace kX:=kX.below_ hb1 kX.lt;replace kR:=kR.below_ hb1 kR.lt;clear hb1;clear zkX q0 q1 q2 q3 q4 q5 q6 q7 q8 q9 q10
 by_cases z0:z=0
 ·subst z0
  have HOK:Hid (OkS s):=chkW_ok.1 HZZ.out;have HL:=Lib.hid (load_any ⟨a0,c0,a1,c1,a2,c2,a3,c3,a4,c4,a5,c5,a6,c6,a7,c7⟩ s w1 (HA.out.sw.ext B1) HA.out.few);have zkX:=kX.lt;obtain⟨q0,q1,q2,q3,q4,q5,q6,q7,q8,q9,q10⟩:=zc11 kX;go_wp2_with fail;refine HL.out.mono ?_;rintro e2 w2 ⟨B,⟨b0,k0,b1,k1,b2,k2,b3,k3,b4,k4,b5,k5,b6,k6,b7,k7⟩,rfl,K2,hb2⟩;have HKR:w.heap.size+1<w1.heap.size:=kR.lt;have HK2:=Lib.hid K2;have hBlow:w1.heap.size≤B:=K2.low;have kB:Blk w2 B 87 (zkx s b0 k0 b1 k1 b2 k2 b3 k3 b4 k4 b5 k5 b6 k6 b7 k7).toArray:=K2.blk;have hbL:w1.heap.size≤w2.heap.size:=hb2.size;have B2:=zbt B1 hb2;replace kX:=kX.below_ hb2 kX.lt;replace kR:=kR.below_ hb2 kR.lt;clear hb2;clear zkX q0 q1 q2 q3 q4 q5 q6 q7 q8 q9 q10;clear K2;obtain⟨⟨T,fr,zt⟩,hT⟩:∃ t,unrT s.sl n=t:=⟨_,rfl⟩;have HT:=Lib.hid hT;have hC:=sUnref_any b0 b1 k0 k1 s.sl n w2 HK2.out.own.o0.sr HK2.out.own.o1.sr HA.out.few.f0 HA.out.few.f1;rw[hT] at hC;have HC3:=Lib.hid hC;clear hT hC;have zB:=kB.lt;obtain⟨-,u1,u2,-⟩:=zc11 kB;go_wp2_with fail;refine HC3.out.mono ?_;rintro e3 w3 ⟨A,c,A1,c1',rfl,oI,oB,hb3⟩;unfold stV;dsimp only;have kB3:=kB.below_ hb3 zB;have zB3:=kB3.lt;clear u1 u2;obtain⟨-,u1,u2,-⟩:=zc11 kB3;obtain⟨-,uf1,uf2,-⟩:=zf kB3;go_upto_region 8 with fail;obtain⟨W3,hW3⟩:∃ W3,(w3.setCell ⟨B,1,none⟩ (.slice A T.refs.length c)).setCell ⟨B,2,none⟩ (.slice A1 T.busy.length c1')=W3:=⟨_,rfl⟩;have K3:WkAt W3 w1.heap.size B ⟨A,c,A1,c1',b2,k2,b3,k3,b4,k4,b5,k5,b6,k6,b7,k7⟩ { s with sl:=T }:=by rw[←hW3];exact HK2.out.slots hb3 oI oB
  have kR3:Blk W3 (w.heap.size+1) 35 zkz.toArray:=by rw[←hW3];exact((kR.below_ hb3 kR.lt).far_ (p:=⟨B,1,none⟩) (by show _≠B;omega) _).far_ (p:=⟨B,2,none⟩) (by show _≠B;omega) _
  have kX3:Blk W3 w.heap.size 35 (zkx s a0 c0 a1 c1 a2 c2 a3 c3 a4 c4 a5 c5 a6 c6 a7 c7).toArray:=by rw[←hW3];exact((kX.below_ hb3 kX.lt).far_ (p:=⟨B,1,none⟩) (by show _≠B;omega) _).far_ (p:=⟨B,2,none⟩) (by show _≠B;omega) _
  have B3:Below w.heap.size w W3:=by rw[←hW3];exact((B2.trans (hb3.mono B2.size)).setCell (p:=⟨B,1,none⟩) (by show w.heap.size≤B;have:=B1.size;omega) _).setCell (p:=⟨B,2,none⟩) (by show w.heap.size≤B;have:=B1.size;omega) _
  have HK3:=Lib.hid K3;rw[hW3];clear hW3 u1 u2 uf1 uf2 oI oB kB3 kB
  by_cases y0:zt=0
  ·subst y0
   obtain⟨⟨n0,n1⟩,hrf,hTe⟩:=unrT_zero HOK.out.sl (n:=n) (by rw[HT.out]);obtain⟨k,rfl⟩:∃ k:Nat,n=k:=⟨n.toNat,by omega⟩;rw[HT.out] at hTe;dsimp only at hTe;have hTl:T.refs.length=s.sl.refs.length:=by rw[hTe];simp[witT]
   have hk:k<T.refs.length:=by omega
   have HKL:Hid (k<T.refs.length):=hk;have k1n:(k:Int)<T.refs.length:=by omega
   clear n0 n1 hrf hTe hTl hk;have HWT:=Lib.hid (waiting_any ⟨a0,c0,a1,c1,a2,c2,a3,c3,a4,c4,a5,c5,a6,c6,a7,c7⟩ s W3 (HA.out.sw.r2.ext B3) (HA.out.sw.r3.ext B3) HOK.out.wr HA.out.wf HA.out.few.f3);have zkX:=kX3.lt;obtain⟨q0,q1,q2,q3,q4,q5,q6,q7,q8,q9,q10⟩:=zc11 kX3;go_wp2_with fail;refine HWT.out.mono ?_;rintro e9 w9 ⟨hb9,⟨hw,M,m,rfl,hM,hMl⟩ | ⟨hw,_⟩⟩
   ·have HMM:=Lib.hid hM
    have HWK:=Lib.hid hw;have B9:=zbt B3 hb9;have kR9:=kR3.below_ hb9 kR3.lt;have HK9:=Lib.hid (HK3.out.ext hb9);have h39:=hb9.size;clear hM hw q0 q1 q2 q3 q4 q5 q6 q7 q8 q9 q10 zkX hb9 K3
    go_wp2_with (at_range;refine wpList_rangeT wtT _ rfl _ rfl _ rfl M m _ rfl HMM.out ?_;intro w10 cnt0 hR10 g10 s10)
    go_frame
    have BG:Below w9.heap.size w9 w10:=(Below.refl _ w9).grown g10 (Nat.le_refl _) (fun j hj=>by cases hj);obtain⟨r0,hr0⟩:∃ r,w9.heap.size=r:=⟨_,rfl⟩;rw[hr0] at hR10 BG;rw[hr0];have HR0:=Lib.hid hr0;have HR10:=Lib.hid hR10;have HRM:M<r0:=by have:=HMM.out.lt;omega
    have hRr:w.heap.size+1<r0:=by have:=kR9.lt;omega
    have hBr:B<r0:=by have:=HK9.out.lt;omega
    have hwr0:w.heap.size≤r0:=by omega
    clear hR10 hr0 s10 g10;obtain⟨rz,hrz⟩:∃ r,refT T k=r:=⟨_,rfl⟩;have HRZ:=Lib.hid hrz;clear hrz
    go_loopw [] (fun wr=>∃ (cnt:Nat) (left:Int→Bool),Hid (RngT wtT wr M r0 m (lkV (wtV s)) left cnt)∧Hid (∀ p v,lkV (wtV s) p=some v→left p=false→¬ (v.2=(k:Int)∧refT T k=0))∧Below r0 w9 wr) (fun wr=>wr.rangeLeft M r0)
    case atStart=>exact⟨cnt0,fun _=>true,HR10.out,(show ∀ p v,_ from fun _ _ _ h=>(by cases h)),BG⟩
    case round=>
     clear HR10 HMM BG;obtain⟨cnt,left,HR,HO,hb9⟩:=hrel;have hbx:Below w9.heap.size w9 wr:=by rw[HR0.out];exact hb9
     have HKr:=Lib.hid (HK9.out.ext hbx);have hb:=zbt B9 hbx;have kBr:Blk wr B 87 #[.int .i64 s.cap,.slice A T.refs.length c,.slice A1 T.busy.length c1',.slice b2 s.wr.length k2,.slice b3 s.rd.length k3,.slice b4 s.desc.length k4,.slice b5 s.dk.cells.length k5,.slice b6 s.dk.jobs.length k6,.int .i64 s.dk.room,.int .i64 s.po.size,.slice b7 s.po.free.length k7]:=HKr.out.blk;have kRr:=kR9.below_ hbx kR9.lt;have hzr:r0≤wr.heap.size:=by rw[←HR0.out];exact hbx.size
     clear hbx;have ztR:=kRr.lt;have ztB:=kBr.lt;obtain⟨t0,t1,t2,t3,t4,t5,t6,t7,t8,t9,t10⟩:=zc11 kRr;obtain⟨tf0,tf1,tf2,tf3,tf4,tf5,tf6,tf7,tf8,tf9,tf10,-⟩:=zf kRr;obtain⟨u0,u1,u2,u3,u4,u5,u6,u7,u8,u9,u10⟩:=zc11 kBr
     go_upto_region 13 with (at_next;refine wpList_nextWt _ rfl _ rfl M r0 m _ left cnt rfl HR.out (fun hd => ?_) (fun p v0 v1 w5b cnt2 hk hl hR2 hlt2 hg2 hs2 hen => ?_))
     ·have HNH:=Lib.hid (hit_end HWK.out HO.out hd)
      have HE:Hid (Q=({ s with sl:=T },fr,0)):=by show _=_;rw[←HQ.out];unfold unrW;rw[HZZ.out,if_neg (by simp),HT.out,if_neg (by simp),Int.toNat_natCast,if_neg HNH.out]
      clear hd;obtain⟨W,hW⟩:∃ W,setN wr (w.heap.size+1) 0 [.int .i64 s.cap,.slice A T.refs.length c,.slice A1 T.busy.length c1',.slice b2 s.wr.length k2,.slice b3 s.rd.length k3,.slice b4 s.desc.length k4,.slice b5 s.dk.cells.length k5,.slice b6 s.dk.jobs.length k6,.int .i64 s.dk.room,.int .i64 s.po.size,.slice b7 s.po.free.length k7]=W:=⟨_,rfl⟩;have hWn:=zs11 hW;have kW:=zsw hW kRr;have bW:=zbw hW hb (by omega);have oW:SwO W w1.heap.size ⟨A,c,A1,c1',b2,k2,b3,k3,b4,k4,b5,k5,b6,k6,b7,k7⟩ { s with sl:=T }:=by rw[←hW];exact HKr.out.own.farN HKR _
      rw[hWn];clear hWn hW t0 tf0 t1 tf1 t2 tf2 t3 tf3 t4 tf4 t5 tf5 t6 tf6 t7 tf7 t8 tf8 t9 tf9 t10 tf10;refine bodyPost_ret (by simp[results,Tryz.results28,go_sem,zc11 kW] <;> rfl) rfl ?_;rw[HE.out];exact⟨⟨A,c,A1,c1',b2,k2,b3,k3,b4,k4,b5,k5,b6,k6,b7,k7⟩,rfl,oW.base_ (by have:=B1.size;omega),bW⟩
     ·clear t0 tf0 t1 tf1 t2 tf2 t3 tf3 t4 tf4 t5 tf5 t6 tf6 t7 tf7 t8 tf8 t9 tf9 t10 tf10 u0 u1 u2 u3 u4 u5 u6 u7 u8 u9 u10 kBr kRr ztR ztB hb
      have hb5:Below r0 w9 w5b:=hb9.grown hg2 hzr (fun j hj=>by cases hj;exact Nat.le_refl _);obtain⟨V6,hV6⟩:∃ V6,w5b.alloc (.cells #[.bool v0,.int .i64 v1] 128)=V6:=⟨_,rfl⟩;have hz5:r0≤w5b.heap.size:=by omega
      have kJ:=za hV6;have G6:w5b.grownBy V6 none:=by rw[←hV6];exact World.grownBy_alloc _ _ _
      have hb6:Below r0 w9 V6:=by rw[←hV6];exact hb5.alloc hz5 _
      have hbx:Below w9.heap.size w9 V6:=by rw[HR0.out];exact hb6
      have HK6:=Lib.hid (HK9.out.ext hbx);have kB6:Blk V6 B 87 #[.int .i64 s.cap,.slice A T.refs.length c,.slice A1 T.busy.length c1',.slice b2 s.wr.length k2,.slice b3 s.rd.length k3,.slice b4 s.desc.length k4,.slice b5 s.dk.cells.length k5,.slice b6 s.dk.jobs.length k6,.int .i64 s.dk.room,.int .i64 s.po.size,.slice b7 s.po.free.length k7]:=HK6.out.blk;have kR6:=kR9.below_ hbx kR9.lt;have b6:=zbt B9 hbx;have zJ:=kJ.lt;have zB6:=kB6.lt;obtain⟨-,j1⟩:=zc2 kJ;obtain⟨-,y1,-⟩:=zc11 kB6;obtain⟨bb,off,xr,hA1,hbl,hxr,hcr⟩:=HK6.out.own.o0.sr.at_ HKL.out;have HXR:Hid (refT T k=xr):=by show _=_;unfold refT;rw[List.getD_eq_getElem?_getD,hxr];rfl
      have cf:V6.cell? ⟨bb,off+k,none⟩=some (.int .i64 xr):=by
       have:=hcr 0 _ rfl
       rwa [show off+k*intE.sz+0=off+k from by show off+k*1+0=_;omega] at this
      dsimp only at hA1;subst hA1;have hR6:=hR2.kept G6 (by simp) (by simp);have HR6:=Lib.hid hR6;have HLE:Hid (V6.rangeLeft M r0=cnt2∧wr.rangeLeft M r0=cnt):=⟨HR6.out.left_eq,HR.out.left_eq⟩;have HHK:=Lib.hid hk;clear hR6 hR2 HR hl hxr hcr G6 hbx hk hs2 hg2;go_upto_region 14 with fail;(try rw[hV6]);clear hV6 hen
      by_cases e1:v1=(k:Int)
      ·subst e1
       by_cases e2:xr=0
       ·subst e2
        have HE:Hid (Q=(.zero,false,9)):=by
         show _=_;rw[←HQ.out];unfold unrW;rw[HZZ.out,if_neg (by simp),HT.out,if_neg (by simp),Int.toNat_natCast,if_pos ⟨HXR.out,hit_now HWK.out HHK.out rfl⟩]
        have ztR:=kR6.lt;obtain⟨t0,t1,t2,t3,t4,t5,t6,t7,t8,t9,t10⟩:=zc11 kR6;obtain⟨tf0,tf1,tf2,tf3,tf4,tf5,tf6,tf7,tf8,tf9,tf10,-⟩:=zf kR6;go_wp2_with fail;obtain⟨W,hW⟩:∃ W,setN V6 (w.heap.size+1) 0 zkz=W:=⟨_,rfl⟩;have hWn:=zs11 hW;have kW:=zsw hW kR6;have bW:=zbw hW b6 (by omega);rw[hWn];clear hWn hW t0 tf0 t1 tf1 t2 tf2 t3 tf3 t4 tf4 t5 tf5 t6 tf6 t7 tf7 t8 tf8 t9 tf9 t10 tf10;refine bodyPost_ret (by simp[results,Tryz.results28,go_sem,zc11 kW] <;> rfl) rfl ?_;rw[HE.out];exact⟨.zero,rfl,SwO.zero,bW⟩
       ·have e2b:(xr == 0)=false:=by simpa using e2
        have HO2:=Lib.hid (hit_step (P:=fun x=>x=(k:Int)∧refT T k=0) HO.out HHK.out (fun h=>e2 (HXR.out.symm.trans h.2)));clear e2;go_wp2_with fail
        go_roundw
        case rel=>exact⟨cnt2,_,HR6.out,HO2.out,hb6⟩
        case measure=>rw[HLE.out.1,HLE.out.2];exact hlt2
      ·have e1b:(v1 == (k:Int))=false:=by simpa using e1
       have HO2:=Lib.hid (hit_step (P:=fun x=>x=(k:Int)∧refT T k=0) HO.out HHK.out (fun h=>e1 h.1));clear e1;go_wp2_with fail
       go_roundw
       case rel=>exact⟨cnt2,_,HR6.out,HO2.out,hb6⟩
       case measure=>rw[HLE.out.1,HLE.out.2];exact hlt2
   ·rw[wtok_of HOK.out] at hw
    cases hw
  ·have HE:Hid (Q=(.zero,false,zt)):=by show _=_;rw[←HQ.out];unfold unrW;rw[HZZ.out,if_neg (by simp),HT.out,if_pos (by simpa using y0)]
   have yb:(zt != 0)=true:=by simpa using y0
   clear y0 K3;have ztR:=kR3.lt;obtain⟨t0,t1,t2,t3,t4,t5,t6,t7,t8,t9,t10⟩:=zc11 kR3;obtain⟨tf0,tf1,tf2,tf3,tf4,tf5,tf6,tf7,tf8,tf9,tf10,-⟩:=zf kR3;go_wp2_with fail;obtain⟨W,hW⟩:∃ W,setN W3 (w.heap.size+1) 0 zkz=W:=⟨_,rfl⟩;have hWn:=zs11 hW;have kW:=zsw hW kR3;have bW:=zbw hW B3 (by omega);rw[hWn];clear hWn hW t0 tf0 t1 tf1 t2 tf2 t3 tf3 t4 tf4 t5 tf5 t6 tf6 t7 tf7 t8 tf8 t9 tf9 t10 tf10;refine bodyPost_ret (by simp[results,Tryz.results28,go_sem,zc11 kW] <;> rfl) rfl ?_;rw[HE.out];exact⟨.zero,rfl,SwO.zero,bW⟩
 ·have HE:Hid (Q=(.zero,false,z)):=by show _=_;rw[←HQ.out];unfold unrW;rw[HZZ.out,if_pos (by simpa using z0)]
  have zb:(z != 0)=true:=by simpa using z0
  clear z0;have ztR:=kR.lt;obtain⟨t0,t1,t2,t3,t4,t5,t6,t7,t8,t9,t10⟩:=zc11 kR;obtain⟨tf0,tf1,tf2,tf3,tf4,tf5,tf6,tf7,tf8,tf9,tf10,-⟩:=zf kR;go_wp2_with fail;obtain⟨W,hW⟩:∃ W,setN w1 (w.heap.size+1) 0 zkz=W:=⟨_,rfl⟩;have hWn:=zs11 hW;have kW:=zsw hW kR;have bW:=zbw hW B1 (by omega);rw[hWn];clear hWn hW t0 tf0 t1 tf1 t2 tf2 t3 tf3 t4 tf4 t5 tf5 t6 tf6 t7 tf7 t8 tf8 t9 tf9 t10 tf10;refine bodyPost_ret (by simp[results,Tryz.results28,go_sem,zc11 kW] <;> rfl) rfl ?_;rw[HE.out];exact⟨.zero,rfl,SwO.zero,bW⟩
theorem SwNew_any(N room most:Int)(w:World)(hn:N≤40∨256<N):Calls Tryz.prog 22 #[.int .i64 N,.int .i64 room,.int .i64 most] w (SwPost (newW N room most).1 [.int .i64 (newW N room most).2] w):=by
 obtain⟨Q,hQ⟩:∃ Q,newW N room most=Q:=⟨_,rfl⟩;rw[hQ];have HQ:=Lib.hid hQ;have HN:=Lib.hid hn;clear hQ hn;obtain⟨X,hX⟩:∃ X,w.alloc (.cells zkz.toArray 35)=X:=⟨_,rfl⟩;have kR:=za hX;have BX:Below w.heap.size w X:=by rw[←hX];exact zbl
 have hXs0:w.heap.size<X.heap.size:=kR.lt
 by_cases m0:most<1
 ·/- too few -/
  have HE:Hid (Q=(.zero,2)):=by show _=_;rw[←HQ.out];unfold newW;rw[if_pos (.inl m0)]
  have m0b:decide (most<1)=true:=by simpa using m0
  clear m0
  go_enter Tryz.func22,Tryz.ntmps22
  have ztR:=kR.lt;obtain⟨t0,t1,t2,t3,t4,t5,t6,t7,t8,t9,t10⟩:=zc11 kR;obtain⟨tf0,tf1,tf2,tf3,tf4,tf5,tf6,tf7,tf8,tf9,tf10,-⟩:=zf kR;go_wp2_with fail;obtain⟨W,hW⟩:∃ W,setN X (w.heap.size) 0 zkz=W:=⟨_,rfl⟩;have hWn:=zs11 hW;have kW:=zsw hW kR;have bW:=zbw hW BX (by omega);rw[hWn];clear hWn hW t0 tf0 t1 tf1 t2 tf2 t3 tf3 t4 tf4 t5 tf5 t6 tf6 t7 tf7 t8 tf8 t9 tf9 t10 tf10;refine bodyPost_ret (by simp[results,Tryz.results22,go_sem,zc11 kW] <;> rfl) rfl ?_;rw[HE.out];exact⟨.zero,rfl,SwO.zero,bW⟩
 ·have m0b:decide (most<1)=false:=by simpa using m0
  by_cases m1:16<most
  ·/- too many -/
   have HE:Hid (Q=(.zero,2)):=by show _=_;rw[←HQ.out];unfold newW;rw[if_pos (.inr m1)]
   have m1b:decide (most>16)=true:=by simpa using m1
   clear m0 m1
   go_enter Tryz.func22,Tryz.ntmps22
   have ztR:=kR.lt;obtain⟨t0,t1,t2,t3,t4,t5,t6,t7,t8,t9,t10⟩:=zc11 kR;obtain⟨tf0,tf1,tf2,tf3,tf4,tf5,tf6,tf7,tf8,tf9,tf10,-⟩:=zf kR;go_wp2_with fail;obtain⟨W,hW⟩:∃ W,setN X (w.heap.size) 0 zkz=W:=⟨_,rfl⟩;have hWn:=zs11 hW;have kW:=zsw hW kR;have bW:=zbw hW BX (by omega);rw[hWn];clear hWn hW t0 tf0 t1 tf1 t2 tf2 t3 tf3 t4 tf4 t5 tf5 t6 tf6 t7 tf7 t8 tf8 t9 tf9 t10 tf10;refine bodyPost_ret (by simp[results,Tryz.results22,go_sem,zc11 kW] <;> rfl) rfl ?_;rw[HE.out];exact⟨.zero,rfl,SwO.zero,bW⟩
  ·have m1b:decide (most>16)=false:=by simpa using m1
   have HM:Hid (¬ (most<1∨16<most)):=fun h=>h.elim m0 m1
   clear m0 m1;obtain⟨⟨T,zt⟩,hT⟩:∃ t,newT N=t:=⟨_,rfl⟩;obtain⟨⟨D,zd⟩,hD⟩:∃ t,newD N room=t:=⟨_,rfl⟩;obtain⟨⟨P,zp⟩,hP⟩:∃ t,newP room=t:=⟨_,rfl⟩;have HT:=Lib.hid hT;have HD:=Lib.hid hD;have HP:=Lib.hid hP;have hC1:=sNew_any N X HN.out;rw[hT] at hC1;have HC1:=Lib.hid hC1;clear hT hD hP hC1
   go_enter Tryz.func22,Tryz.ntmps22
   go_wp2_with fail;(try rw[hX]);clear hX m0b m1b;refine HC1.out.mono ?_;rintro e1 w1 ⟨A,c,A1,c1,rfl,oI,oB,hb1⟩;unfold stV;dsimp only;replace kR:=kR.below_ hb1 kR.lt;have B1:=zbt BX hb1;have hXs:=BX.size;have hs1:=hb1.size;clear hb1;go_upto_region 4 with fail;obtain⟨V1,hV1⟩:∃ V,w1.alloc (.cells #[.slice A T.refs.length c,.slice A1 T.busy.length c1] 25)=V:=⟨_,rfl⟩;have kS:=za hV1;have BA1:=zab hV1;have HI1:=Lib.hid (oI.ext BA1);have HB1:=Lib.hid (oB.ext BA1);replace kR:=kR.below_ BA1 kR.lt;have B2:=zbt B1 BA1;rw[hV1];have hs1a:=BA1.size;clear hV1 oI oB BA1
   by_cases t0:zt=0
   ·subst t0
    have hC2:=dNew_any N room V1 HN.out;rw[HD.out] at hC2;have HC2:=Lib.hid hC2;clear hC2;go_wp2_with fail;refine HC2.out.mono ?_;rintro e2 w2 ⟨A5,c5,A6,c6,rfl,oC,oJ,hb2⟩;unfold dkV;dsimp only at oC oJ;dsimp only;replace kR:=kR.below_ hb2 kR.lt;replace kS:=kS.below_ hb2 kS.lt;have HI2:=Lib.hid (HI1.out.ext hb2);have HB2:=Lib.hid (HB1.out.ext hb2);have B3:=zbt B2 hb2;have hV1s:=B2.size;have hs2:=hb2.size;clear hb2;go_upto_region 7 with fail;obtain⟨V2,hV2⟩:∃ V,w2.alloc (.cells #[.slice A5 D.cells.length c5,.slice A6 D.jobs.length c6,.int .i64 D.room] 31)=V:=⟨_,rfl⟩;have kD:=za hV2;have BA2:=zab hV2;have HI3:=Lib.hid (HI2.out.ext BA2);have HB3:=Lib.hid (HB2.out.ext BA2);have HC3:=Lib.hid (oC.ext BA2);have HJ3:=Lib.hid (oJ.ext BA2);replace kR:=kR.below_ BA2 kR.lt;replace kS:=kS.below_ BA2 kS.lt;have B4:=zbt B3 BA2;rw[hV2];have hs2a:=BA2.size;clear hV2 oC oJ BA2
    by_cases d0:zd=0
    ·subst d0
     have hC3:=pNew_any room V2;rw[HP.out] at hC3;have HC4:=Lib.hid hC3;clear hC3;go_wp2_with fail;refine HC4.out.mono ?_;rintro e3 w3 ⟨A7,c7,rfl,oP,hb3⟩;unfold poV;dsimp only at oP;dsimp only;replace kR:=kR.below_ hb3 kR.lt;replace kS:=kS.below_ hb3 kS.lt;replace kD:=kD.below_ hb3 kD.lt;have HI4:=Lib.hid (HI3.out.ext hb3);have HB4:=Lib.hid (HB3.out.ext hb3);have HC5:=Lib.hid (HC3.out.ext hb3);have HJ4:=Lib.hid (HJ3.out.ext hb3);have B5:=zbt B4 hb3;have hV2s:=B4.size;have hs3:=hb3.size;clear hb3;go_upto_region 10 with fail;obtain⟨V3,hV3⟩:∃ V,w3.alloc (.cells #[.int .i64 P.size,.slice A7 P.free.length c7] 33)=V:=⟨_,rfl⟩;have kP:=za hV3;have BA3:=zab hV3;have HI5:=Lib.hid (HI4.out.ext BA3);have HB5:=Lib.hid (HB4.out.ext BA3);have HC6:=Lib.hid (HC5.out.ext BA3);have HJ5:=Lib.hid (HJ4.out.ext BA3);have HP5:=Lib.hid (oP.ext BA3);replace kR:=kR.below_ BA3 kR.lt;replace kS:=kS.below_ BA3 kS.lt;replace kD:=kD.below_ BA3 kD.lt;have B6:=zbt B5 BA3;rw[hV3];clear hV3 oP BA3
     by_cases p0:zp=0
     ·subst p0
      have HE:Hid (Q=((⟨most,T,[],[],[],D,P⟩:Swp),0)):=by show _=_;rw[←HQ.out];unfold newW;rw[if_neg HM.out,HT.out,if_neg (by simp),HD.out,if_neg (by simp),HP.out,if_neg (by simp)]
      have zS:=kS.lt;have zD:=kD.lt;have zP:=kP.lt;obtain⟨s0,s1⟩:=zc2 kS;obtain⟨d0,d1,d2⟩:=zc3 kD;obtain⟨p0,p1⟩:=zc2 kP;have hRs:w.heap.size<X.heap.size:=hXs0;have HO:Hid (SwO V3 X.heap.size ⟨A,c,A1,c1,none,0,none,0,none,0,A5,c5,A6,c6,A7,c7⟩ (⟨most,T,[],[],[],D,P⟩:Swp)):=⟨HI5.out,HB5.out,OwnE.nil.mn,OwnE.nil,OwnE.nil,HC6.out.base_ (by omega),HJ5.out.base_ (by omega),HP5.out.base_ (by omega),fun _ h=>absurd rfl h,fun _ h=>absurd rfl h⟩;have ztR:=kR.lt;obtain⟨t0,t1,t2,t3,t4,t5,t6,t7,t8,t9,t10⟩:=zc11 kR;obtain⟨tf0,tf1,tf2,tf3,tf4,tf5,tf6,tf7,tf8,tf9,tf10,-⟩:=zf kR;go_wp2_with fail;obtain⟨W,hW⟩:∃ W,setN V3 (w.heap.size) 0 [.int .i64 most,.slice A T.refs.length c,.slice A1 T.busy.length c1,.slice none 0 0,.slice none 0 0,.slice none 0 0,.slice A5 D.cells.length c5,.slice A6 D.jobs.length c6,.int .i64 D.room,.int .i64 P.size,.slice A7 P.free.length c7]=W:=⟨_,rfl⟩;have hWn:=zs11 hW;have kW:=zsw hW kR;have bW:Below w.heap.size w W:=by rw[←hW];exact below_setN B6 (Nat.le_refl _) _
      have oW:SwO W X.heap.size ⟨A,c,A1,c1,none,0,none,0,none,0,A5,c5,A6,c6,A7,c7⟩ (⟨most,T,[],[],[],D,P⟩:Swp):=by rw[←hW];exact HO.out.farN hRs _
      rw[hWn];clear hWn hW t0 tf0 t1 tf1 t2 tf2 t3 tf3 t4 tf4 t5 tf5 t6 tf6 t7 tf7 t8 tf8 t9 tf9 t10 tf10;refine bodyPost_ret (by simp[results,Tryz.results22,go_sem,zc11 kW] <;> rfl) rfl ?_;rw[HE.out];exact⟨⟨A,c,A1,c1,none,0,none,0,none,0,A5,c5,A6,c6,A7,c7⟩,rfl,oW.base_ (by omega),bW⟩
     ·have HE:Hid (Q=(.zero,zp)):=by show _=_;rw[←HQ.out];unfold newW;rw[if_neg HM.out,HT.out,if_neg (by simp),HD.out,if_neg (by simp),HP.out,if_pos (by simpa using p0)]
      have yb:(zp != 0)=true:=by simpa using p0
      clear p0;have ztR:=kR.lt;obtain⟨t0,t1,t2,t3,t4,t5,t6,t7,t8,t9,t10⟩:=zc11 kR;obtain⟨tf0,tf1,tf2,tf3,tf4,tf5,tf6,tf7,tf8,tf9,tf10,-⟩:=zf kR;go_wp2_with fail;obtain⟨W,hW⟩:∃ W,setN V3 (w.heap.size) 0 zkz=W:=⟨_,rfl⟩;have hWn:=zs11 hW;have kW:=zsw hW kR;have bW:=zbw hW B6 (by omega);rw[hWn];clear hWn hW t0 tf0 t1 tf1 t2 tf2 t3 tf3 t4 tf4 t5 tf5 t6 tf6 t7 tf7 t8 tf8 t9 tf9 t10 tf10;refine bodyPost_ret (by simp[results,Tryz.results22,go_sem,zc11 kW] <;> rfl) rfl ?_;rw[HE.out];exact⟨.zero,rfl,SwO.zero,bW⟩
    ·have HE:Hid (Q=(.zero,zd)):=by show _=_;rw[←HQ.out];unfold newW;rw[if_neg HM.out,HT.out,if_neg (by simp),HD.out,if_pos (by simpa using d0)]
     have yb:(zd != 0)=true:=by simpa using d0
     clear d0;have ztR:=kR.lt;obtain⟨t0,t1,t2,t3,t4,t5,t6,t7,t8,t9,t10⟩:=zc11 kR;obtain⟨tf0,tf1,tf2,tf3,tf4,tf5,tf6,tf7,tf8,tf9,tf10,-⟩:=zf kR;go_wp2_with fail;obtain⟨W,hW⟩:∃ W,setN V2 (w.heap.size) 0 zkz=W:=⟨_,rfl⟩;have hWn:=zs11 hW;have kW:=zsw hW kR;have bW:=zbw hW B4 (by omega);rw[hWn];clear hWn hW t0 tf0 t1 tf1 t2 tf2 t3 tf3 t4 tf4 t5 tf5 t6 tf6 t7 tf7 t8 tf8 t9 tf9 t10 tf10;refine bodyPost_ret (by simp[results,Tryz.results22,go_sem,zc11 kW] <;> rfl) rfl ?_;rw[HE.out];exact⟨.zero,rfl,SwO.zero,bW⟩
   ·have HE:Hid (Q=(.zero,zt)):=by show _=_;rw[←HQ.out];unfold newW;rw[if_neg HM.out,HT.out,if_pos (by simpa using t0)]
    have yb:(zt != 0)=true:=by simpa using t0
    clear t0;have ztR:=kR.lt;obtain⟨t0,t1,t2,t3,t4,t5,t6,t7,t8,t9,t10⟩:=zc11 kR;obtain⟨tf0,tf1,tf2,tf3,tf4,tf5,tf6,tf7,tf8,tf9,tf10,-⟩:=zf kR;go_wp2_with fail;obtain⟨W,hW⟩:∃ W,setN V1 (w.heap.size) 0 zkz=W:=⟨_,rfl⟩;have hWn:=zs11 hW;have kW:=zsw hW kR;have bW:=zbw hW B2 (by omega);rw[hWn];clear hWn hW t0 tf0 t1 tf1 t2 tf2 t3 tf3 t4 tf4 t5 tf5 t6 tf6 t7 tf7 t8 tf8 t9 tf9 t10 tf10;refine bodyPost_ret (by simp[results,Tryz.results22,go_sem,zc11 kW] <;> rfl) rfl ?_;rw[HE.out];exact⟨.zero,rfl,SwO.zero,bW⟩
theorem Few.of_ok{s:Swp}(h:OkS s)(hr:s.sl.refs.length≤40):Few s:=by
 have h1:=h.sl.blen;have h2:=h.wr.1;have h3:=jobs_len h;have h4:=h.dk.few;have h5:=h.dk.room;have h6:=h.dlen;have h7:=h.len;have h8:=h.po.len;exact⟨hr,by omega,by omega,by omega,by omega,by omega,by omega,by omega⟩
theorem SwA.of{w:World}{L:Lay}{s:Swp}(h:SwR w L s)(hok:OkS s)(hr:s.sl.refs.length≤40):SwA w L s:=by
 refine⟨h,Few.of_ok hok hr,fun v hv => ?_⟩
 by_cases e:v.2.2=0
 ·rw[e];exact wf_i (by omega)
 ·have hm:(v.2.2,v.1) ∈ wtW s:=by
   rw[wtW_eq];exact List.mem_append_right _ (wtL_mem.2 ⟨v,hv,rfl,rfl,e⟩)
  have:=hok.wtr _ hm;exact wf_i (by dsimp only at this;omega)
def xC:Ct:=⟨1,2,3,4,5,6,7,9223372036854775808⟩
theorem x_any(w:World):Calls Tryz.prog 36 #[] w fun e w'=>e=.returned (ctV xC)∧Below w.heap.size w w':=by
 go_enter Tryz.func36,Tryz.ntmps36
 go_wp2_with fail;obtain⟨W,hW⟩:∃ V,w.alloc (.cells (zkk 1 2 3 4 5 6 7 9223372036854775808).toArray 38)=V:=⟨_,rfl⟩;have kW:=za hW;have bW:Below w.heap.size w W:=by rw[←hW];exact zbl
 rw[hW];clear hW;refine bodyPost_ret (by simp[results,Tryz.results36,go_sem,zc8 kW] <;> rfl) rfl ?_;exact⟨rfl,bW⟩
theorem eq_rd(w:World)(x y:Wr):(Op.equal 100 (.agg #[.int .i64 x.1,.int .i64 x.2.1,.int .i64 x.2.2]) (.agg #[.int .i64 y.1,.int .i64 y.2.1,.int .i64 y.2.2])).run Tryz.prog w=.ok (decide (x=y)) w:=by
 have hs:Tryz.prog.stoodInHeld 100=false:=by kernel_rfl
 obtain⟨a,b,c⟩:=x;obtain⟨d,e,f⟩:=y;have h0:=part_int w #[.int .i64 a,.int .i64 b,.int .i64 c] 0 (.int .i64 a) rfl;have h1:=part_int w #[.int .i64 a,.int .i64 b,.int .i64 c] 1 (.int .i64 b) rfl;have h2:=part_int w #[.int .i64 a,.int .i64 b,.int .i64 c] 2 (.int .i64 c) rfl;have h3:=part_int w #[.int .i64 d,.int .i64 e,.int .i64 f] 0 (.int .i64 d) rfl;have h4:=part_int w #[.int .i64 d,.int .i64 e,.int .i64 f] 1 (.int .i64 e) rfl;have h5:=part_int w #[.int .i64 d,.int .i64 e,.int .i64 f] 2 (.int .i64 f) rfl;have e1:=eqIn_int w 9998 a d;have e2:=eqIn_int w 9998 b e;have e3:=eqIn_int w 9998 c f;unfold Op.equal;show (Op.equalIn (9999+1) _ _ _).run _ _=_;unfold Op.equalIn;simp only[Sem.run_bind,run_underlying Tryz.underlying100,Result.andThen_ok];simp[hs,h0,h1,h2,h3,h4,h5,e1,e2,e3]
 by_cases h:a=d <;> by_cases h':b=e <;> by_cases h'':c=f <;> simp[h,h',h'']
theorem plain_bool:Tryz.prog.plainKey 4=true:=by simp[Program.plainKey,Tryz.underlying4]
theorem eqIn_bool(w:World)(d:Nat)(a b:Bool):(Op.equalIn (d+1) 4 (.bool a) (.bool b)).run Tryz.prog w=.ok (a == b) w:=by
 simp[Op.equalIn,run_underlying Tryz.underlying4]
theorem eqIn_ct(w:World)(a b:Ct):(Op.equalIn 9999 38 (ctV a) (ctV b)).run Tryz.prog w=.ok (decide (a=b)) w:=by
 obtain⟨i,hi⟩:∃ i,Tryz.prog.info? 36=some i:=Option.isSome_iff_exists.1 (by kernel_rfl);have hc:Tryz.prog.cellsOf 36=1:=by kernel_rfl
 have h:=eqItems_u64 w 9997 (ctL a) (ctL b) [] [] rfl rfl;have e:decide (ctL a=ctL b)=decide (a=b):=by rw[decide_eq_decide];exact ctL_inj
 rw[e] at h;show (Op.equalIn (9998+1) _ (.agg _) (.agg _)).run _ _=_;rw[run_equalIn_array w 9998 _ _ Tryz.underlying38 hi,hc];exact h
theorem eq_dn(w:World)(x y:Dn):(Op.equal 55 (dnV x) (dnV y)).run Tryz.prog w=.ok (decide (x=y)) w:=by
 have hs:Tryz.prog.stoodInHeld 55=false:=by kernel_rfl
 obtain⟨⟨xw,xs,xf,X⟩,xp⟩:=x;obtain⟨⟨yw,ys,yf,Y⟩,yp⟩:=y
 have e:decide ((⟨⟨xw,xs,xf,X⟩,xp⟩:Dn)=⟨⟨yw,ys,yf,Y⟩,yp⟩)=(decide (xw=yw) && (decide (xs=ys) && (decide (xf=yf) && (decide (xp=yp) && decide (X=Y))))):=by
  by_cases h1:xw=yw <;> by_cases h2:xs=ys <;> by_cases h3:xf=yf <;> by_cases h4:xp=yp <;> by_cases h5:X=Y <;> simp[h1,h2,h3,h4,h5]
 rw[e];obtain⟨bc,hbc⟩:∃ b,decide (X=Y)=b:=⟨_,rfl⟩;have e3:=eqIn_ct w X Y;rw[hbc] at e3 ⊢;clear hbc e;obtain⟨x0,x1,x2,x3,x4,x5,x6,x7⟩:=X;obtain⟨y0,y1,y2,y3,y4,y5,y6,y7⟩:=Y;show (Op.equal _ (.agg (zkn xw xs xf xp x0 x1 x2 x3 x4 x5 x6 x7).toArray) (.agg (zkn yw ys yf yp y0 y1 y2 y3 y4 y5 y6 y7).toArray)).run _ _=_;have h0:=run_part_plain (xs:=(zkn xw xs xf xp x0 x1 x2 x3 x4 x5 x6 x7).toArray) (off:=0) w plain_bool rfl;have h1:=part_int w (zkn xw xs xf xp x0 x1 x2 x3 x4 x5 x6 x7).toArray 1 (.int .i64 xs) rfl;have h2:=part_int w (zkn xw xs xf xp x0 x1 x2 x3 x4 x5 x6 x7).toArray 2 (.int .i64 xf) rfl;have h3:=part_int w (zkn xw xs xf xp x0 x1 x2 x3 x4 x5 x6 x7).toArray 3 (.int .i64 xp) rfl;have h4:(part 38 (zkn xw xs xf xp x0 x1 x2 x3 x4 x5 x6 x7).toArray 4).run Tryz.prog w=.ok (.agg (zkk x0 x1 x2 x3 x4 x5 x6 x7).toArray) w:=by kernel_rfl
 have g0:=run_part_plain (xs:=(zkn yw ys yf yp y0 y1 y2 y3 y4 y5 y6 y7).toArray) (off:=0) w plain_bool rfl;have g1:=part_int w (zkn yw ys yf yp y0 y1 y2 y3 y4 y5 y6 y7).toArray 1 (.int .i64 ys) rfl;have g2:=part_int w (zkn yw ys yf yp y0 y1 y2 y3 y4 y5 y6 y7).toArray 2 (.int .i64 yf) rfl;have g3:=part_int w (zkn yw ys yf yp y0 y1 y2 y3 y4 y5 y6 y7).toArray 3 (.int .i64 yp) rfl;have g4:(part 38 (zkn yw ys yf yp y0 y1 y2 y3 y4 y5 y6 y7).toArray 4).run Tryz.prog w=.ok (.agg (zkk y0 y1 y2 y3 y4 y5 y6 y7).toArray) w:=by kernel_rfl
 have e0:=eqIn_bool w 9998 xw yw;have e1:=eqIn_int w 9998 xs ys;have e2:=eqIn_int w 9998 xf yf;have e4:=eqIn_int w 9998 xp yp;replace e3:(Op.equalIn 9999 38 (.agg (zkk x0 x1 x2 x3 x4 x5 x6 x7).toArray) (.agg (zkk y0 y1 y2 y3 y4 y5 y6 y7).toArray)).run Tryz.prog w=.ok bc w:=e3;unfold Op.equal;show (Op.equalIn (9999+1) _ _ _).run _ _=_;unfold Op.equalIn;simp only[Sem.run_bind,run_underlying Tryz.underlying55,Result.andThen_ok];simp[hs,h0,h1,h2,h3,h4,g0,g1,g2,g3,g4,e0,e1,e2,e3,e4]
 by_cases h:xw=yw <;> by_cases h':xs=ys <;> by_cases h'':xf=yf <;> by_cases h3':xp=yp <;> cases bc <;> simp[h,h',h'',h3']
def kn0:Swp:=(newW 2 3 1).1
def kn1:Swp:=(wrtW kn0 5 2 xC).1
def kn2:Swp:=(claW kn1 0 3).1
def kn3:Swp:=(cmpW kn2 0).1
def kd3:Dn:=⟨⟨true,0,5,xC⟩,3⟩
theorem kn_new:newW 2 3 1=(kn0,0):=by decide +kernel
theorem kn_w1:wrtW kn0 5 2 xC=(kn1,0,0):=by decide +kernel
theorem kn_h1:hinE kn1=([2],0):=by decide +kernel
theorem kn_c2:claW kn1 0 3=(kn2,0):=by decide +kernel
theorem kn_c3:cmpW kn2 0=(kn3,kd3,0):=by decide +kernel
theorem kn_ok0:OkS kn0:=chkW_ok.1 (by decide +kernel)
theorem kn_ok1:OkS kn1:=chkW_ok.1 (by decide +kernel)
theorem kn_ok2:OkS kn2:=chkW_ok.1 (by decide +kernel)
theorem kn_ok3:OkS kn3:=chkW_ok.1 (by decide +kernel)
theorem kn_l0:kn0.sl.refs.length≤40:=by decide +kernel
theorem kn_l1:kn1.sl.refs.length≤40:=by decide +kernel
theorem kn_l2:kn2.sl.refs.length≤40:=by decide +kernel
theorem kn_l3:kn3.sl.refs.length≤40:=by decide +kernel
theorem kn_refs3:kn3.sl.refs=[1,0]:=by decide +kernel
theorem kn_chk3:chkW kn3=0:=by decide +kernel
def SwF(S:Swp)(z:List Value)(v:Value)(lo _hi:Nat)(w:World):Prop:=∃ L,v=.tuple (swV L S::z).toArray∧SwO w lo L S
theorem SwF.lasts(S:Swp)(z:List Value):(Fk.has (SwF S z)).lasts:=fun _ _ _ _ _ ⟨L,e,h⟩ hb=>⟨L,e,h.ext hb⟩
theorem SwO.farT{w:World}{base b:Nat}{L:Lay}{s:Swp}{cs:Array Value}(h:SwO w base L s)(hb:Blk w b 35 cs)(vs:List Value):SwO (setN w b 0 vs) base L s:=
 ⟨h.o0.farBN vs hb (by decide),h.o1.farBN vs hb (by decide),h.o2.lift fun o=>o.farBN vs hb (by decide),h.o3.farBN vs hb (by decide),h.o4.farBN vs hb (by decide),h.o5.farBN vs hb (by decide),h.o6.farBN vs hb (by decide),h.o7.farBN vs hb (by decide),h.p0,h.p7⟩
theorem SameInts_any(A B:Option Addr)(c d:Nat)(xs ys:List Int)(w:World)(ha:Sl w (.int .i64) A xs)(hb:Sl w (.int .i64) B ys)(la:xs.length≤100000)(lb:ys.length≤100000) :
  Calls Tryz.prog 20 #[.slice A xs.length c,.slice B ys.length d] w fun e w'=>e=.returned (.bool (decide (xs=ys)))∧Below w.heap.size w w':=by
 have HA:=Lib.hid ha;have HB:=Lib.hid hb;clear ha hb
 by_cases hl:xs.length=ys.length
 ·have hl':((xs.length:Int) != ys.length)=false:=by simp[hl]
  have HL:=Lib.hid hl;have h1:xs.length≤ys.length:=by omega
  have h2:ys.length≤xs.length:=by omega
  clear hl
  go_enter Tryz.func20,Tryz.ntmps20
  go_wp2
  go_loopw [5] (fun i wr=>∃ k:Nat,k≤xs.length∧i=.int .i64 k∧Hid (∀ m:Nat,m<k→xs[m]? = ys[m]?)∧Below w.heap.size w wr) (fun i _=>xs.length - (intOf i).toNat)
  case atStart=>exact⟨0,by omega,rfl,fun m hm=>absurd hm (by omega),Below.refl _ _⟩
  case round=>
   obtain⟨k,hk,rfl,HK,hbw⟩:=hrel
   by_cases hlt:k<xs.length
   ·obtain⟨b,off,x,rfl,hbl,hx,hc⟩:=(HA.out.ext hbw).at_ hlt
    obtain⟨b',off',y,rfl,hbl',hy,hc'⟩:=(HB.out.ext hbw).at_ (show k<ys.length by omega);have hlt':k<ys.length:=by omega
    have i1:(k:Int)<xs.length:=by omega
    have i2:(k:Int)<ys.length:=by omega
    have HX:=Lib.hid hx;have HY:=Lib.hid hy;clear hx hy
    by_cases e:x=y
    ·subst e
     go_wp2
     go_quiet (fail)
     go_wp2
     go_roundw
     case rel=>
      refine⟨k+1,by omega,by go_num,fun m hm => ?_,zbl⟩
      rcases (by omega:m<k∨m=k) with h | rfl
      ·exact HK.out m h
      ·exact HX.out.trans HY.out.symm
     case measure=>simp[intOf];omega
    ·have he:(x != y)=true:=by simpa using e
     have HD:Hid (decide (xs=ys)=false):=by
      show _=_;refine decide_eq_false (fun h=>e ?_);subst h;have:=HX.out.symm.trans HY.out;injection this
     clear e
     go_wp2
     go_quiet (fail)
     go_wp2
     go_ret;exact⟨ret_bool HD.out.symm,zbl⟩
   ·have HD:Hid (decide (xs=ys)=true):=by
     show _=_;refine decide_eq_true (List.ext_getElem? fun m => ?_)
     rcases (by omega:m<k∨k≤m) with h | h
     ·exact HK.out m h
     ·rw[List.getElem?_eq_none (by omega),List.getElem?_eq_none (by omega)]
    go_wp2
    go_ret;exact⟨ret_bool HD.out.symm,zbl⟩
 ·have hl':((xs.length:Int) != ys.length)=true:=by simp;omega
  have HD:Hid (decide (xs=ys)=false):=by
   show _=_;exact decide_eq_false (fun h=>hl (by rw[h]))
  clear hl
  go_enter Tryz.func20,Tryz.ntmps20
  go_wp2
  go_ret;exact⟨ret_bool HD.out.symm,zbl⟩
theorem SameBools_any(A B:Option Addr)(c d:Nat)(xs ys:List Bool)(w:World)(ha:Sl w .bool A xs)(hb:Sl w .bool B ys)(la:xs.length≤100000)(lb:ys.length≤100000) :
  Calls Tryz.prog 135 #[.slice A xs.length c,.slice B ys.length d] w fun e w'=>e=.returned (.bool (decide (xs=ys)))∧Below w.heap.size w w':=by
 have HA:=Lib.hid ha;have HB:=Lib.hid hb;clear ha hb
 by_cases hl:xs.length=ys.length
 ·have hl':((xs.length:Int) != ys.length)=false:=by simp[hl]
  have HL:=Lib.hid hl;have h1:xs.length≤ys.length:=by omega
  have h2:ys.length≤xs.length:=by omega
  clear hl
  go_enter Tryz.func135,Tryz.ntmps135
  go_wp2
  go_loopw [5] (fun i wr=>∃ k:Nat,k≤xs.length∧i=.int .i64 k∧Hid (∀ m:Nat,m<k→xs[m]? = ys[m]?)∧Below w.heap.size w wr) (fun i _=>xs.length - (intOf i).toNat)
  case atStart=>exact⟨0,by omega,rfl,fun m hm=>absurd hm (by omega),Below.refl _ _⟩
  case round=>
   obtain⟨k,hk,rfl,HK,hbw⟩:=hrel
   by_cases hlt:k<xs.length
   ·obtain⟨b,off,x,rfl,hbl,hx,hc⟩:=(HA.out.ext hbw).at_ hlt
    obtain⟨b',off',y,rfl,hbl',hy,hc'⟩:=(HB.out.ext hbw).at_ (show k<ys.length by omega);have hlt':k<ys.length:=by omega
    have i1:(k:Int)<xs.length:=by omega
    have i2:(k:Int)<ys.length:=by omega
    have HX:=Lib.hid hx;have HY:=Lib.hid hy;clear hx hy
    by_cases e:x=y
    ·subst e
     cases x
     all_goals
      go_wp2
      go_quiet (fail)
      go_wp2
      go_roundw
      case rel=>
       refine⟨k+1,by omega,by go_num,fun m hm => ?_,zbl⟩
       rcases (by omega:m<k∨m=k) with h | rfl
       ·exact HK.out m h
       ·exact HX.out.trans HY.out.symm
      case measure=>simp[intOf];omega
    ·have he:(x != y)=true:=by simpa using e
     have HD:Hid (decide (xs=ys)=false):=by
      show _=_;refine decide_eq_false (fun h=>e ?_);subst h;have:=HX.out.symm.trans HY.out;injection this
     cases x <;> cases y <;> first
      | exact absurd rfl e
      | (clear e
         go_wp2
         go_quiet (fail)
         go_wp2
         go_ret
         exact⟨ret_bool HD.out.symm,zbl⟩)
   ·have HD:Hid (decide (xs=ys)=true):=by
     show _=_;refine decide_eq_true (List.ext_getElem? fun m => ?_)
     rcases (by omega:m<k∨k≤m) with h | h
     ·exact HK.out m h
     ·rw[List.getElem?_eq_none (by omega),List.getElem?_eq_none (by omega)]
    go_wp2
    go_ret;exact⟨ret_bool HD.out.symm,zbl⟩
 ·have hl':((xs.length:Int) != ys.length)=true:=by simp;omega
  have HD:Hid (decide (xs=ys)=false):=by
   show _=_;exact decide_eq_false (fun h=>hl (by rw[h]))
  clear hl
  go_enter Tryz.func135,Tryz.ntmps135
  go_wp2
  go_ret;exact⟨ret_bool HD.out.symm,zbl⟩
section
variable {P : Program} {ops : Array Oper} {Q : Exit → Act → World → Prop} {W0 : World} {o : Oper} {os : List Oper} {fs : List Fct} {vs vs' : List Value} {gs gs' : List Fct} {a a' : Act}
theorem zoT{u:Value}(h:∀ w,Below W0.heap.size W0 w→(∀ (j:Nat) (v:Value) (g:Fct),depB o j=true→vs[j]? = some v→gs[j]? = some g→g.at_ v w)→(execOp a.eval o).run P w=.ok (.value u) w)(h2:Chain P ops W0 Q os fs vs' gs' a')(hw:Region.wanted o (yielded ops a.tmps)=true:=by rfl)
    (hv:vs++[u]=vs':=by (first | (simp only[Act.put,List.setIfInBounds_toArray,List.set_cons_zero,List.set_cons_succ,List.nil_append,List.cons_append];done) | (simp only[Act.put,List.setIfInBounds_toArray,List.set_cons_zero,List.set_cons_succ,List.nil_append,List.cons_append];rfl) | rfl)) (hg:gs++[.is u]=gs':=by (first | (simp only[Act.put,List.setIfInBounds_toArray,List.set_cons_zero,List.set_cons_succ,List.nil_append,List.cons_append];done) | (simp only[Act.put,List.setIfInBounds_toArray,List.set_cons_zero,List.set_cons_succ,List.nil_append,List.cons_append];rfl) | rfl)) (ha:a.put o.dst u=a':=by (first | (simp only[Act.put,List.setIfInBounds_toArray,List.set_cons_zero,List.set_cons_succ,List.nil_append,List.cons_append];done) | (simp only[Act.put,List.setIfInBounds_toArray,List.set_cons_zero,List.set_cons_succ,List.nil_append,List.cons_append];rfl) | rfl)):Chain P ops W0 Q (o::os) (.is u::fs) vs gs a:=chain_is (step_take hw h) (by rw[hv,hg,ha];exact h2)
theorem zot{u:Value}(h2:Chain P ops W0 Q os fs vs' gs' a')(hw:Region.wanted o (yielded ops a.tmps)=true:=by rfl)(h:∀ w,Below W0.heap.size W0 w→(∀ (j:Nat) (v:Value) (g:Fct),depB o j=true→vs[j]? = some v→gs[j]? = some g→g.at_ v w)→(execOp a.eval o).run P w=.ok (.value u) w:=by intro w hbw hd;clear hd;go_simp;first | done | with_reducible rfl)
    (hv:vs++[u]=vs':=by (first | (simp only[Act.put,List.setIfInBounds_toArray,List.set_cons_zero,List.set_cons_succ,List.nil_append,List.cons_append];done) | (simp only[Act.put,List.setIfInBounds_toArray,List.set_cons_zero,List.set_cons_succ,List.nil_append,List.cons_append];rfl) | rfl)) (hg:gs++[.is u]=gs':=by (first | (simp only[Act.put,List.setIfInBounds_toArray,List.set_cons_zero,List.set_cons_succ,List.nil_append,List.cons_append];done) | (simp only[Act.put,List.setIfInBounds_toArray,List.set_cons_zero,List.set_cons_succ,List.nil_append,List.cons_append];rfl) | rfl)) (ha:a.put o.dst u=a':=by (first | (simp only[Act.put,List.setIfInBounds_toArray,List.set_cons_zero,List.set_cons_succ,List.nil_append,List.cons_append];done) | (simp only[Act.put,List.setIfInBounds_toArray,List.set_cons_zero,List.set_cons_succ,List.nil_append,List.cons_append];rfl) | rfl)):Chain P ops W0 Q (o::os) (.is u::fs) vs gs a:=zoT h h2 hw hv hg ha
theorem zou(h2:Chain P ops W0 Q os fs vs' gs' a')(hw:Region.wanted o (yielded ops a.tmps)=false:=by rfl)
    (hv:vs++[undef]=vs':=by (first | (simp only[Act.put,List.setIfInBounds_toArray,List.set_cons_zero,List.set_cons_succ,List.nil_append,List.cons_append];done) | (simp only[Act.put,List.setIfInBounds_toArray,List.set_cons_zero,List.set_cons_succ,List.nil_append,List.cons_append];rfl) | rfl)) (hg:gs++[.is undef]=gs':=by (first | (simp only[Act.put,List.setIfInBounds_toArray,List.set_cons_zero,List.set_cons_succ,List.nil_append,List.cons_append];done) | (simp only[Act.put,List.setIfInBounds_toArray,List.set_cons_zero,List.set_cons_succ,List.nil_append,List.cons_append];rfl) | rfl)) (ha:a.put o.dst undef=a':=by (first | (simp only[Act.put,List.setIfInBounds_toArray,List.set_cons_zero,List.set_cons_succ,List.nil_append,List.cons_append];done) | (simp only[Act.put,List.setIfInBounds_toArray,List.set_cons_zero,List.set_cons_succ,List.nil_append,List.cons_append];rfl) | rfl)):Chain P ops W0 Q (o::os) (.is undef::fs) vs gs a:=chain_is (step_un hw) (by rw[hv,hg,ha];exact h2)
end
end Go.Proofs.YthijbipidbjpfaaGreatDoor
