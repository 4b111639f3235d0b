import Derived.Test.YthijbipidbjpfaaGreatDoorZR18
import Derived.Test.YthijbipidbjpfaaGreatDoorZR00
import Derived.Test.YthijbipidbjpfaaGreatDoorZR04
import Derived.Test.YthijbipidbjpfaaGreatDoorZR14
import Derived.Test.YthijbipidbjpfaaGreatDoorZR03
set_option linter.unusedSimpArgs false
set_option linter.unusedVariables false
set_option maxRecDepth 100000
set_option maxHeartbeats 8000000
namespace Go.Proofs.YthijbipidbjpfaaGreatDoor
open Go.RowKit Go.Maps
theorem WriteOut_any (L:Lay) (s:Swp) (f r:Int) (x:Ct) (w:World) (h:SwA w L s) (hz:TZ w) :
  Calls Tryz.prog 16 #[swV L s,.int .i64 f,.int .i64 r,ctV x] w (SwPost (wrtW s f r x).1 [.int .i64 (wrtW s f r x).2.1,.int .i64 (wrtW s f r x).2.2] w):=by
 obtain ⟨a0,c0,a1,c1,a2,c2,a3,c3,a4,c4,a5,c5,a6,c6,a7,c7⟩:=L
 have HA:=Lib.hid h
 have HZ:=Lib.hid hz
 have HW0:0 < w.heap.size:=hz.pos
 obtain ⟨Q,hQ⟩:∃ Q,wrtW s f r x = Q:=⟨_,rfl⟩
 rw [hQ]
 have HQ:=Lib.hid hQ
 clear hQ h hz
 unfold swV swC ctV ctC
 obtain ⟨X,hX⟩:∃ X,((w.alloc (.cells (zkx s a0 c0 a1 c1 a2 c2 a3 c3 a4 c4 a5 c5 a6 c6 a7 c7).toArray 35)).alloc (.cells (zkk x.c0 x.c1 x.c2 x.c3 x.c4 x.c5 x.c6 x.c7).toArray 38)).alloc (.cells zkz.toArray 35) = X:=⟨_,rfl⟩
 have kX:Blk X w.heap.size 35 (zkx s a0 c0 a1 c1 a2 c2 a3 c3 a4 c4 a5 c5 a6 c6 a7 c7).toArray:=by rw [← hX];exact ((Blk.new_ rfl rfl).alloc_ _).alloc_ _
 have kC:Blk X (w.heap.size + 1) 38 (zkk x.c0 x.c1 x.c2 x.c3 x.c4 x.c5 x.c6 x.c7).toArray:=by rw [← hX];exact (Blk.new_ (by simp) rfl:Blk _ (w.heap.size + 1) _ _).alloc_ _
 have kR:Blk X (w.heap.size + 2) 35 zkz.toArray:=by rw [← hX];exact Blk.new_ (by simp) rfl
 have BX:Below w.heap.size w X:=by rw [← hX];exact zbl
 obtain ⟨z,hzz⟩:∃ z,chkW s = z:=⟨_,rfl⟩
 have HZZ:=Lib.hid hzz
 have hC:=wCheck_any ⟨a0,c0,a1,c1,a2,c2,a3,c3,a4,c4,a5,c5,a6,c6,a7,c7⟩ s X (HA.out.ext BX) (HZ.out.ext HW0 BX)
 rw [hzz] at hC
 have HC:=Lib.hid hC
 clear hC hzz
 have zkX:=kX.lt
 obtain ⟨q0,q1,q2,q3,q4,q5,q6,q7,q8,q9,q10⟩:=zc11 kX
 go_enter Tryz.func16,Tryz.ntmps16
 go_wp2_with fail
 (try rw [hX])
 clear hX
 refine HC.out.mono ?_
 rintro e1 w1 ⟨rfl,hb1⟩
 have B1:=zbt BX hb1
 replace kX:=kX.below_ hb1 kX.lt
 replace kC:=kC.below_ hb1 kC.lt
 replace kR:=kR.below_ hb1 kR.lt
 clear hb1
 clear zkX q0 q1 q2 q3 q4 q5 q6 q7 q8 q9 q10
 by_cases z0:z = 0
 ·subst z0
  have HOK:Hid (OkS s):=chkW_ok.1 HZZ.out
  cases d1:decide (0 ≤ f∧f < 256) with
  | false =>
   have HE:Hid (Q = (.zero,0,2)):=by show _ = _;rw [← HQ.out];unfold wrtW frW;rw [HZZ.out,if_neg (by simp),d1];rfl
   have ztR:=kR.lt
   obtain ⟨t0,t1,t2,t3,t4,t5,t6,t7,t8,t9,t10⟩:=zc11 kR
   obtain ⟨tf0,tf1,tf2,tf3,tf4,tf5,tf6,tf7,tf8,tf9,tf10,-⟩:=zf kR
   go_wp2_with (go_at_call 48;refine (swFrame_b _ _ d1 _).mono ?_;rintro e w' ⟨rfl,rfl⟩)
   obtain ⟨W,hW⟩:∃ W,setN w1 (w.heap.size + 2) 0 zkz = W:=⟨_,rfl⟩
   have hWn:=zs11 hW
   have kW:=zsw hW kR
   have bW:=zbw hW B1 (by omega)
   rw [hWn]
   clear hWn hW t0 tf0 t1 tf1 t2 tf2 t3 tf3 t4 tf4 t5 tf5 t6 tf6 t7 tf7 t8 tf8 t9 tf9 t10 tf10
   refine bodyPost_ret (by simp [results,Tryz.results16,go_sem,zc11 kW] <;> rfl) rfl ?_
   rw [HE.out]
   exact ⟨.zero,rfl,SwO.zero,bW⟩
  | true =>
   have HD1:Hid (frW f = true):=d1
   by_cases r0:r < 1
   ·have HE:Hid (Q = (.zero,0,15)):=by show _ = _;rw [← HQ.out];unfold wrtW;rw [HZZ.out,if_neg (by simp),HD1.out,if_neg (by simp),if_pos (.inl r0)]
    have r0b:decide (r < 1) = true:=by simpa using r0
    clear r0
    have ztR:=kR.lt
    obtain ⟨t0,t1,t2,t3,t4,t5,t6,t7,t8,t9,t10⟩:=zc11 kR
    obtain ⟨tf0,tf1,tf2,tf3,tf4,tf5,tf6,tf7,tf8,tf9,tf10,-⟩:=zf kR
    go_wp2_with (go_at_call 48;refine (swFrame_b _ _ d1 _).mono ?_;rintro e w' ⟨rfl,rfl⟩)
    obtain ⟨W,hW⟩:∃ W,setN w1 (w.heap.size + 2) 0 zkz = W:=⟨_,rfl⟩
    have hWn:=zs11 hW
    have kW:=zsw hW kR
    have bW:=zbw hW B1 (by omega)
    rw [hWn]
    clear hWn hW t0 tf0 t1 tf1 t2 tf2 t3 tf3 t4 tf4 t5 tf5 t6 tf6 t7 tf7 t8 tf8 t9 tf9 t10 tf10
    refine bodyPost_ret (by simp [results,Tryz.results16,go_sem,zc11 kW] <;> rfl) rfl ?_
    rw [HE.out]
    exact ⟨.zero,rfl,SwO.zero,bW⟩
   ·have r0b:decide (r < 1) = false:=by simpa using r0
    by_cases r1:512 < r
    ·have HE:Hid (Q = (.zero,0,15)):=by show _ = _;rw [← HQ.out];unfold wrtW;rw [HZZ.out,if_neg (by simp),HD1.out,if_neg (by simp),if_pos (.inr r1)]
     have r1b:decide (r > 512) = true:=by simpa using r1
     clear r0 r1
     have ztR:=kR.lt
     obtain ⟨t0,t1,t2,t3,t4,t5,t6,t7,t8,t9,t10⟩:=zc11 kR
     obtain ⟨tf0,tf1,tf2,tf3,tf4,tf5,tf6,tf7,tf8,tf9,tf10,-⟩:=zf kR
     go_wp2_with (go_at_call 48;refine (swFrame_b _ _ d1 _).mono ?_;rintro e w' ⟨rfl,rfl⟩)
     obtain ⟨W,hW⟩:∃ W,setN w1 (w.heap.size + 2) 0 zkz = W:=⟨_,rfl⟩
     have hWn:=zs11 hW
     have kW:=zsw hW kR
     have bW:=zbw hW B1 (by omega)
     rw [hWn]
     clear hWn hW t0 tf0 t1 tf1 t2 tf2 t3 tf3 t4 tf4 t5 tf5 t6 tf6 t7 tf7 t8 tf8 t9 tf9 t10 tf10
     refine bodyPost_ret (by simp [results,Tryz.results16,go_sem,zc11 kW] <;> rfl) rfl ?_
     rw [HE.out]
     exact ⟨.zero,rfl,SwO.zero,bW⟩
    ·have r1b:decide (r > 512) = false:=by simpa using r1
     have HR:Hid (1 ≤ r∧r ≤ 512):=⟨by omega,by omega⟩
     have HR2:Hid (¬ (r < 1 ∨ 512 < r)):=fun h => h.elim r0 r1
     clear r0 r1
     obtain ⟨us,hus⟩:∃ b,usW s f = b:=⟨_,rfl⟩
     have HUS:=Lib.hid hus
     have hF:=hasFrame_any ⟨a0,c0,a1,c1,a2,c2,a3,c3,a4,c4,a5,c5,a6,c6,a7,c7⟩ s f w1 (HA.out.sw.r6.ext B1) HA.out.few.f6
     rw [hus] at hF
     have HF:=Lib.hid hF
     clear hF hus
     have zkX:=kX.lt
     obtain ⟨q0,q1,q2,q3,q4,q5,q6,q7,q8,q9,q10⟩:=zc11 kX
     go_wp2_with (go_at_call 48;refine (swFrame_b _ _ d1 _).mono ?_;rintro e w' ⟨rfl,rfl⟩)
     refine HF.out.mono ?_
     rintro e2 w2 ⟨rfl,hb2⟩
     have B2:=zbt B1 hb2
     replace kX:=kX.below_ hb2 kX.lt
     replace kC:=kC.below_ hb2 kC.lt
     replace kR:=kR.below_ hb2 kR.lt
     clear hb2
     clear zkX q0 q1 q2 q3 q4 q5 q6 q7 q8 q9 q10
     cases us with
     | true =>
      have HE:Hid (Q = (.zero,0,10)):=by show _ = _;rw [← HQ.out];unfold wrtW;rw [HZZ.out,if_neg (by simp),HD1.out,if_neg (by simp),if_neg HR2.out,HUS.out,if_pos rfl]
      have ztR:=kR.lt
      obtain ⟨t0,t1,t2,t3,t4,t5,t6,t7,t8,t9,t10⟩:=zc11 kR
      obtain ⟨tf0,tf1,tf2,tf3,tf4,tf5,tf6,tf7,tf8,tf9,tf10,-⟩:=zf kR
      go_wp2_with fail
      obtain ⟨W,hW⟩:∃ W,setN w2 (w.heap.size + 2) 0 zkz = W:=⟨_,rfl⟩
      have hWn:=zs11 hW
      have kW:=zsw hW kR
      have bW:=zbw hW B2 (by omega)
      rw [hWn]
      clear hWn hW t0 tf0 t1 tf1 t2 tf2 t3 tf3 t4 tf4 t5 tf5 t6 tf6 t7 tf7 t8 tf8 t9 tf9 t10 tf10
      refine bodyPost_ret (by simp [results,Tryz.results16,go_sem,zc11 kW] <;> rfl) rfl ?_
      rw [HE.out]
      exact ⟨.zero,rfl,SwO.zero,bW⟩
     | false =>
      obtain ⟨hl,hhl⟩:∃ l,hinW s = l:=⟨_,rfl⟩
      have HHL:=Lib.hid hhl
      have hH:=hinders_any ⟨a0,c0,a1,c1,a2,c2,a3,c3,a4,c4,a5,c5,a6,c6,a7,c7⟩ s w2 (HA.out.ext B2) HOK.out
      rw [hhl] at hH
      have HH:=Lib.hid hH
      clear hH hhl
      have zkX:=kX.lt
      obtain ⟨q0,q1,q2,q3,q4,q5,q6,q7,q8,q9,q10⟩:=zc11 kX
      go_wp2_with fail
      refine HH.out.mono ?_
      rintro e3 w3 ⟨hA,hc,rfl,_,hb3⟩
      have B3:=zbt B2 hb3
      replace kX:=kX.below_ hb3 kX.lt
      replace kC:=kC.below_ hb3 kC.lt
      replace kR:=kR.below_ hb3 kR.lt
      clear hb3
      clear zkX q0 q1 q2 q3 q4 q5 q6 q7 q8 q9 q10
      by_cases hn:hl = []
      ·subst hn
       obtain ⟨i,d,l,hi,_,_,_,hfr,p1,p2,p3,p4,p5⟩:=wrt_parts HOK.out x HD1.out HR.out HUS.out HHL.out
       have HE:Hid (Q = (describeW { s with sl:=(witT s.sl i r true),dk:=⟨s.dk.cells,s.dk.jobs ++ [⟨true,i,f,x⟩],s.dk.room⟩,wr:=s.wr ++ [((i:Int),f,0)] },(i:Int),0)):=by
        show _ = _
        rw [← HQ.out]
        unfold wrtW
        rw [HZZ.out,if_neg (by simp),HD1.out,if_neg (by simp),if_neg HR2.out,HUS.out,if_neg (by simp),HHL.out,if_neg (by simp)]
        simp only [p1,p2]
       have P1:=Lib.hid p1
       have P2:=Lib.hid p2
       have P3:=Lib.hid p3
       have PF:=Lib.hid hfr
       clear p1 p2 p3 p4 p5 hfr hi
       have HL:=Lib.hid (load_any ⟨a0,c0,a1,c1,a2,c2,a3,c3,a4,c4,a5,c5,a6,c6,a7,c7⟩ s w3 (HA.out.sw.ext B3) HA.out.few)
       have zkX:=kX.lt
       obtain ⟨q0,q1,q2,q3,q4,q5,q6,q7,q8,q9,q10⟩:=zc11 kX
       go_wp2_with fail
       refine HL.out.mono ?_
       rintro e4 w4 ⟨B,L4,rfl,K4,hb4⟩
       have HKR:w.heap.size + 2 < w3.heap.size:=kR.lt
       have HK4:=Lib.hid K4
       have hWR:=Lib.hid (write_any w3.heap.size B L4 s f r x w4 K4 HA.out.few HOK.out.po P1.out P2.out P3.out PF.out)
       have B4:=zbt B3 hb4
       replace kX:=kX.below_ hb4 kX.lt
       replace kC:=kC.below_ hb4 kC.lt
       replace kR:=kR.below_ hb4 kR.lt
       clear hb4
       clear zkX q0 q1 q2 q3 q4 q5 q6 q7 q8 q9 q10
       have zC:=kC.lt
       obtain ⟨y0,y1,y2,y3,y4,y5,y6,y7⟩:=zc8 kC
       clear K4
       go_wp2_with fail
       refine hWR.out.mono ?_
       rintro e5 w5 ⟨rfl,⟨⟨b0,k0,b1,k1,b2,k2,b3,k3,b4,k4,b5,k5,b6,k6,b7,k7⟩,K5⟩,hb5⟩
       have kB5:Blk w5 B 87 (swC ⟨b0,k0,b1,k1,b2,k2,b3,k3,b4,k4,b5,k5,b6,k6,b7,k7⟩ (describeW { s with sl:=(witT s.sl i r true),dk:=⟨s.dk.cells,s.dk.jobs ++ [⟨true,i,f,x⟩],s.dk.room⟩,wr:=s.wr ++ [((i:Int),f,0)] })).toArray:=K5.blk
       obtain ⟨S5,hS5⟩:∃ S5,describeW { s with sl:=(witT s.sl i r true),dk:=⟨s.dk.cells,s.dk.jobs ++ [⟨true,i,f,x⟩],s.dk.room⟩,wr:=s.wr ++ [((i:Int),f,0)] } = S5:=⟨_,rfl⟩
       rw [hS5] at K5 kB5 HE
       have kB6:Blk w5 B 87 (zkx S5 b0 k0 b1 k1 b2 k2 b3 k3 b4 k4 b5 k5 b6 k6 b7 k7).toArray:=kB5
       have HO5:=Lib.hid K5.own
       have kR5:=kR.below_ hb5 HKR
       have B5:Below w.heap.size w w5:=B4.trans (hb5.mono (by have:=B3.size;omega))
       clear K5 kB5 hS5 y0 y1 y2 y3 y4 y5 y6 y7
       have ztR:=kR5.lt
       have ztB:=kB6.lt
       obtain ⟨t0,t1,t2,t3,t4,t5,t6,t7,t8,t9,t10⟩:=zc11 kR5
       obtain ⟨tf0,tf1,tf2,tf3,tf4,tf5,tf6,tf7,tf8,tf9,tf10,-⟩:=zf kR5
       obtain ⟨u0,u1,u2,u3,u4,u5,u6,u7,u8,u9,u10⟩:=zc11 kB6
       go_wp2_with fail
       obtain ⟨W,hW⟩:∃ W,setN w5 (w.heap.size + 2) 0 (zkx S5 b0 k0 b1 k1 b2 k2 b3 k3 b4 k4 b5 k5 b6 k6 b7 k7) = W:=⟨_,rfl⟩
       have hWn:=zs11 hW
       have kW:=zsw hW kR5
       have bW:=zbw hW B5 (by omega)
       have oW:SwO W w3.heap.size ⟨b0,k0,b1,k1,b2,k2,b3,k3,b4,k4,b5,k5,b6,k6,b7,k7⟩ S5:=by rw [← hW];exact HO5.out.farN HKR _
       rw [hWn]
       clear hWn hW t0 tf0 t1 tf1 t2 tf2 t3 tf3 t4 tf4 t5 tf5 t6 tf6 t7 tf7 t8 tf8 t9 tf9 t10 tf10
       refine bodyPost_ret (by simp [results,Tryz.results16,go_sem,zc11 kW] <;> rfl) rfl ?_
       rw [HE.out]
       exact ⟨⟨b0,k0,b1,k1,b2,k2,b3,k3,b4,k4,b5,k5,b6,k6,b7,k7⟩,rfl,oW.base_ (by have:=B3.size;omega),bW⟩
      ·have HE:Hid (Q = (.zero,0,5)):=by show _ = _;rw [← HQ.out];unfold wrtW;rw [HZZ.out,if_neg (by simp),HD1.out,if_neg (by simp),if_neg HR2.out,HUS.out,if_neg (by simp),HHL.out,if_pos hn]
       have hnb:0 < hl.length:=List.length_pos_iff.2 hn
       clear hn
       have ztR:=kR.lt
       obtain ⟨t0,t1,t2,t3,t4,t5,t6,t7,t8,t9,t10⟩:=zc11 kR
       obtain ⟨tf0,tf1,tf2,tf3,tf4,tf5,tf6,tf7,tf8,tf9,tf10,-⟩:=zf kR
       go_wp2_with fail
       obtain ⟨W,hW⟩:∃ W,setN w3 (w.heap.size + 2) 0 zkz = W:=⟨_,rfl⟩
       have hWn:=zs11 hW
       have kW:=zsw hW kR
       have bW:=zbw hW B3 (by omega)
       rw [hWn]
       clear hWn hW t0 tf0 t1 tf1 t2 tf2 t3 tf3 t4 tf4 t5 tf5 t6 tf6 t7 tf7 t8 tf8 t9 tf9 t10 tf10
       refine bodyPost_ret (by simp [results,Tryz.results16,go_sem,zc11 kW] <;> rfl) rfl ?_
       rw [HE.out]
       exact ⟨.zero,rfl,SwO.zero,bW⟩
 ·have HE:Hid (Q = (.zero,0,z)):=by show _ = _;rw [← HQ.out];unfold wrtW;rw [HZZ.out,if_pos (by simpa using z0)]
  have zb:(z != 0) = true:=by simpa using z0
  clear z0
  have ztR:=kR.lt
  obtain ⟨t0,t1,t2,t3,t4,t5,t6,t7,t8,t9,t10⟩:=zc11 kR
  obtain ⟨tf0,tf1,tf2,tf3,tf4,tf5,tf6,tf7,tf8,tf9,tf10,-⟩:=zf kR
  go_wp2_with fail
  obtain ⟨W,hW⟩:∃ W,setN w1 (w.heap.size + 2) 0 zkz = W:=⟨_,rfl⟩
  have hWn:=zs11 hW
  have kW:=zsw hW kR
  have bW:=zbw hW B1 (by omega)
  rw [hWn]
  clear hWn hW t0 tf0 t1 tf1 t2 tf2 t3 tf3 t4 tf4 t5 tf5 t6 tf6 t7 tf7 t8 tf8 t9 tf9 t10 tf10
  refine bodyPost_ret (by simp [results,Tryz.results16,go_sem,zc11 kW] <;> rfl) rfl ?_
  rw [HE.out]
  exact ⟨.zero,rfl,SwO.zero,bW⟩
theorem wtok_of {s:Swp} (h:OkS s):wtok s = true:=by
 unfold wtok;rw [decide_eq_true h.wts,Bool.true_and,List.all_eq_true];intro x hx;simpa using h.wtr x hx
theorem ask_any (L:Lay) (s:Swp) (n p:Int) (w:World) (h:SwA w L s) (hok:OkS s):Calls Tryz.prog 89 #[swV L s,.int .i64 n,.int .i64 p] w fun e w' => e = .returned (.int .i64 (askW s n p))∧Below w.heap.size w w':=by
 obtain ⟨a0,c0,a1,c1,a2,c2,a3,c3,a4,c4,a5,c5,a6,c6,a7,c7⟩:=L;have HA:=Lib.hid h;have HOK:=Lib.hid hok;obtain ⟨R,hR⟩:∃ R,askW s n p = R:=⟨_,rfl⟩;rw [hR];have HR:=Lib.hid hR;clear hR h hok;unfold swV swC;obtain ⟨X,hX⟩:∃ X,w.alloc (.cells (zkx s a0 c0 a1 c1 a2 c2 a3 c3 a4 c4 a5 c5 a6 c6 a7 c7).toArray 35) = X:=⟨_,rfl⟩;have kX:Blk X w.heap.size 35 (zkx s a0 c0 a1 c1 a2 c2 a3 c3 a4 c4 a5 c5 a6 c6 a7 c7).toArray:=by rw [← hX];exact zbk
 have BX:Below w.heap.size w X:=by rw [← hX];exact zbl
 have zkX:=kX.lt;obtain ⟨q0,q1,q2,q3,q4,q5,q6,q7,q8,q9,q10⟩:=zc11 kX
 by_cases n0:n < 0
 ·have HE:Hid (R = 2):=by show _ = _;rw [← HR.out];unfold askW;rw [if_pos (.inl n0)]
  have n0b:decide (n < 0) = true:=by simpa using n0
  clear n0
  go_enter Tryz.func89,Tryz.ntmps89
  go_wp2_with fail;go_ret;exact ⟨by rw [HE.out];rfl,BX⟩
 ·have n0b:decide (n < 0) = false:=by simpa using n0
  by_cases n1:(s.sl.refs.length:Int) ≤ n
  ·have HE:Hid (R = 2):=by show _ = _;rw [← HR.out];unfold askW;rw [if_pos (.inr (.inl n1))]
   have n1b:decide (n ≥ (s.sl.refs.length:Int)) = true:=by simpa using n1
   clear n0 n1
   go_enter Tryz.func89,Tryz.ntmps89
   go_wp2_with fail;go_ret;exact ⟨by rw [HE.out];rfl,BX⟩
  ·have n1b:decide (n ≥ (s.sl.refs.length:Int)) = false:=by simpa using n1
   cases d1:decide (1 ≤ p∧p ≤ 8) with
   | false =>
    have HE:Hid (R = 2):=by
     show _ = _;rw [← HR.out];unfold askW;have:=of_decide_eq_false d1;rw [if_pos (.inr (.inr (by omega)))]
    clear n0 n1
    go_enter Tryz.func89,Tryz.ntmps89
    go_wp2_with (go_at_call 97;refine (swProc_b _ _ d1 _).mono ?_;rintro e w' ⟨rfl,rfl⟩)
    go_ret;exact ⟨by rw [HE.out];rfl,BX⟩
   | true =>
    have hp:1 ≤ p∧p ≤ 8:=of_decide_eq_true d1
    have HN:Hid (¬ (n < 0 ∨ (s.sl.refs.length:Int) ≤ n ∨ p < 1 ∨ 8 < p)):=fun h => by omega
    obtain ⟨k,rfl⟩:∃ k:Nat,n = k:=⟨n.toNat,by omega⟩;have hk:k < s.sl.refs.length:=by omega
    have HWF:Hid ((Lit.int .i64 p).wf = true):=wf_i (by omega);have n1c:decide (s.sl.refs.length ≤ k) = false:=decide_eq_false (by omega);clear n0 n1 hp
    go_enter Tryz.func89,Tryz.ntmps89
    go_wp2_with (go_at_call 97;refine (swProc_b _ _ d1 _).mono ?_;rintro e w' ⟨rfl,rfl⟩)
    (try rw [hX]);clear hX n0b n1b n1c;refine (waiting_any ⟨a0,c0,a1,c1,a2,c2,a3,c3,a4,c4,a5,c5,a6,c6,a7,c7⟩ s X (HA.out.sw.r2.ext BX) (HA.out.sw.r3.ext BX) HOK.out.wr HA.out.wf HA.out.few.f3).mono ?_;rintro e1 w1 ⟨hb1,⟨_,M,m,rfl,hM,hMl⟩ | ⟨hw,_⟩⟩
    ·have _hx:=HA
     have B1:=zbt BX hb1;replace kX:=kX.below_ hb1 kX.lt;clear hb1;clear zkX q0 q1 q2 q3 q4 q5 q6 q7 q8 q9 q10;obtain ⟨tw,htw⟩:∃ b,(lkV (wtV s) p).isSome = b:=⟨_,rfl⟩;obtain ⟨⟨y0,y1⟩,hy⟩:∃ y,(lkV (wtV s) p).getD (false,0) = y:=⟨_,rfl⟩;have hlk:=wtT_look hM p HWF.out hy htw;have HTW:Hid (((wtW s).any fun x => decide (x.1 = p)) = tw):=by show _ = _;rw [any_wtW,htw]
     clear htw hy hM;have BW:Below w.heap.size w (w1.alloc (.cells #[.bool y0,.int .i64 y1] 128)):=B1.alloc B1.size _
     cases tw with
     | true =>
      have HE:Hid (R = 7):=by show _ = _;rw [← HR.out];unfold askW;rw [if_neg HN.out,HTW.out,if_pos rfl]
      go_wp2_with fail;go_ret;exact ⟨by rw [HE.out];rfl,BW⟩
     | false =>
      go_upto_region 7 with fail;obtain ⟨W2,hW2⟩:∃ W2,w1.alloc (.cells #[.bool y0,.int .i64 y1] 128) = W2:=⟨_,rfl⟩;rw [hW2] at BW;have kX2:Blk W2 w.heap.size 35 (zkx s a0 c0 a1 c1 a2 c2 a3 c3 a4 c4 a5 c5 a6 c6 a7 c7).toArray:=by rw [← hW2];exact kX.alloc_ _
      obtain ⟨b,off,x,rfl,hbl,hx,hc⟩:=(HA.out.sw.r0.ext BW).at_ hk;have HX:Hid (refT s.sl k = x):=by show _ = _;unfold refT;rw [List.getD_eq_getElem?_getD,hx];rfl
      have cf:W2.cell? ⟨b,off + k,none⟩ = some (.int .i64 x):=by
       have:=hc 0 _ rfl
       rwa [show off + k * intE.sz + 0 = off + k from by show off + k * 1 + 0 = _;omega] at this
      have zX2:=kX2.lt;have y1:=zc kX2 1;have i1:(k:Int) < s.sl.refs.length:=by omega
      (try rw [hW2]);clear hW2 hlk hx hc
      by_cases x0:x = 0
      ·have HE:Hid (R = 9):=by show _ = _;rw [← HR.out];unfold askW;rw [if_neg HN.out,HTW.out,if_neg (by simp),Int.toNat_natCast,HX.out,if_pos x0]
       have x0b:(x == 0) = true:=by simpa using x0
       clear x0;go_wp2_with fail;go_ret;exact ⟨by rw [HE.out];rfl,BW⟩
      ·have HE:Hid (R = 0):=by show _ = _;rw [← HR.out];unfold askW;rw [if_neg HN.out,HTW.out,if_neg (by simp),Int.toNat_natCast,HX.out,if_neg x0]
       have x0b:(x == 0) = false:=by simpa using x0
       clear x0;go_wp2_with fail;go_ret;exact ⟨by rw [HE.out];rfl,BW⟩
    ·rw [wtok_of HOK.out] at hw
     cases hw
def hinE (s:Swp):List Int × Int:=if chkW s ≠ 0 then ([],chkW s) else (hinW s,0)
def HiPost (R:List Int × Int) (w:World) (e:Ending) (w':World):Prop:=∃ A c,e = .returned (.tuple #[.slice A R.1.length c,.int .i64 R.2])∧SR intE w' A R.1∧Below w.heap.size w w'
theorem Hinders_any (L:Lay) (s:Swp) (w:World) (h:SwA w L s) (hz:TZ w):Calls Tryz.prog 14 #[swV L s] w (HiPost (hinE s) w):=by
 obtain ⟨a0,c0,a1,c1,a2,c2,a3,c3,a4,c4,a5,c5,a6,c6,a7,c7⟩:=L;have HA:=Lib.hid h;have HZ:=Lib.hid hz;have HW0:0 < w.heap.size:=hz.pos;clear h hz;unfold swV swC;obtain ⟨X,hX⟩:∃ X,w.alloc (.cells (zkx s a0 c0 a1 c1 a2 c2 a3 c3 a4 c4 a5 c5 a6 c6 a7 c7).toArray 35) = X:=⟨_,rfl⟩;have kX:Blk X w.heap.size 35 (zkx s a0 c0 a1 c1 a2 c2 a3 c3 a4 c4 a5 c5 a6 c6 a7 c7).toArray:=by rw [← hX];exact zbk
 have BX:Below w.heap.size w X:=by rw [← hX];exact zbl
 obtain ⟨z,hzz⟩:∃ z,chkW s = z:=⟨_,rfl⟩;have HZZ:=Lib.hid hzz;have hC:=wCheck_any ⟨a0,c0,a1,c1,a2,c2,a3,c3,a4,c4,a5,c5,a6,c6,a7,c7⟩ s X (HA.out.ext BX) (HZ.out.ext HW0 BX);rw [hzz] at hC;have HC:=Lib.hid hC;clear hC hzz;have zkX:=kX.lt;obtain ⟨q0,q1,q2,q3,q4,q5,q6,q7,q8,q9,q10⟩:=zc11 kX
 go_enter Tryz.func14,Tryz.ntmps14
 go_wp2_with fail;(try rw [hX]);clear hX;refine HC.out.mono ?_;rintro e1 w1 ⟨rfl,hb1⟩;have B1:=zbt BX hb1;replace kX:=kX.below_ hb1 kX.lt;clear hb1;clear zkX q0 q1 q2 q3 q4 q5 q6 q7 q8 q9 q10
 by_cases z0:z = 0
 ·subst z0
  have HOK:Hid (OkS s):=chkW_ok.1 HZZ.out;have zkX:=kX.lt;obtain ⟨q0,q1,q2,q3,q4,q5,q6,q7,q8,q9,q10⟩:=zc11 kX;go_wp2_with fail;refine (hinders_any ⟨a0,c0,a1,c1,a2,c2,a3,c3,a4,c4,a5,c5,a6,c6,a7,c7⟩ s w1 (HA.out.ext B1) HOK.out).mono ?_;rintro e2 w2 ⟨A,c,rfl,hS,hb2⟩;have HS2:=Lib.hid hS;clear hS;go_wp2_with fail;refine bodyPost_ret (by simp [results,Tryz.results14,go_sem] <;> rfl) rfl ?_;have e:hinE s = (hinW s,0):=by unfold hinE;rw [HZZ.out];rfl
  rw [e];exact ⟨A,c,rfl,HS2.out,B1.trans (hb2.mono B1.size)⟩
 ·have zb:(z != 0) = true:=by simpa using z0
  have e:hinE s = ([],z):=by unfold hinE;rw [HZZ.out,if_pos z0]
  have HE:=Lib.hid e;clear z0 e;go_wp2_with fail;refine bodyPost_ret (by simp [results,Tryz.results14,go_sem] <;> rfl) rfl ?_;rw [HE.out];exact ⟨none,0,rfl,SR.nil,B1⟩
theorem ReadIn_any (L:Lay) (s:Swp) (n f p:Int) (w:World) (h:SwA w L s) (hz:TZ w) :
  Calls Tryz.prog 30 #[swV L s,.int .i64 n,.int .i64 f,.int .i64 p] w (SwPost (redW s n f p).1 [.int .i64 (redW s n f p).2] w):=by
 obtain ⟨a0,c0,a1,c1,a2,c2,a3,c3,a4,c4,a5,c5,a6,c6,a7,c7⟩:=L
 have HA:=Lib.hid h
 have HZ:=Lib.hid hz
 have HW0:0 < w.heap.size:=hz.pos
 obtain ⟨Q,hQ⟩:∃ Q,redW s n f p = Q:=⟨_,rfl⟩
 rw [hQ]
 have HQ:=Lib.hid hQ
 clear hQ h hz
 unfold swV swC
 obtain ⟨X,hX⟩:∃ X,(w.alloc (.cells (zkx s a0 c0 a1 c1 a2 c2 a3 c3 a4 c4 a5 c5 a6 c6 a7 c7).toArray 35)).alloc (.cells zkz.toArray 35) = X:=⟨_,rfl⟩
 have kX:=za1 hX
 have kR:=za2 hX
 have BX:Below w.heap.size w X:=by rw [← hX];exact zbl
 obtain ⟨z,hzz⟩:∃ z,chkW s = z:=⟨_,rfl⟩
 have HZZ:=Lib.hid hzz
 have hC:=wCheck_any ⟨a0,c0,a1,c1,a2,c2,a3,c3,a4,c4,a5,c5,a6,c6,a7,c7⟩ s X (HA.out.ext BX) (HZ.out.ext HW0 BX)
 rw [hzz] at hC
 have HC:=Lib.hid hC
 clear hC hzz
 have zkX:=kX.lt
 obtain ⟨q0,q1,q2,q3,q4,q5,q6,q7,q8,q9,q10⟩:=zc11 kX
 go_enter Tryz.func30,Tryz.ntmps30
 go_wp2_with fail
 (try rw [hX])
 clear hX
 refine HC.out.mono ?_
 rintro e1 w1 ⟨rfl,hb1⟩
 have B1:=zbt BX hb1
 replace kX:=kX.below_ hb1 kX.lt
 replace kR:=kR.below_ hb1 kR.lt
 clear hb1
 clear zkX q0 q1 q2 q3 q4 q5 q6 q7 q8 q9 q10
 by_cases z0:z = 0
 ·subst z0
  have HOK:Hid (OkS s):=chkW_ok.1 HZZ.out
  cases d1:decide (0 ≤ f∧f < 256) with
  | false =>
   have HE:Hid (Q = (.zero,2)):=by show _ = _;rw [← HQ.out];unfold redW frW;rw [HZZ.out,if_neg (by simp),d1];rfl
   have ztR:=kR.lt
   obtain ⟨t0,t1,t2,t3,t4,t5,t6,t7,t8,t9,t10⟩:=zc11 kR
   obtain ⟨tf0,tf1,tf2,tf3,tf4,tf5,tf6,tf7,tf8,tf9,tf10,-⟩:=zf kR
   go_wp2_with (go_at_call 48;refine (swFrame_b _ _ d1 _).mono ?_;rintro e w' ⟨rfl,rfl⟩)
   obtain ⟨W,hW⟩:∃ W,setN w1 (w.heap.size + 1) 0 zkz = W:=⟨_,rfl⟩
   have hWn:=zs11 hW
   have kW:=zsw hW kR
   have bW:=zbw hW B1 (by omega)
   rw [hWn]
   clear hWn hW t0 tf0 t1 tf1 t2 tf2 t3 tf3 t4 tf4 t5 tf5 t6 tf6 t7 tf7 t8 tf8 t9 tf9 t10 tf10
   refine bodyPost_ret (by simp [results,Tryz.results30,go_sem,zc11 kW] <;> rfl) rfl ?_
   rw [HE.out]
   exact ⟨.zero,rfl,SwO.zero,bW⟩
  | true =>
   have HD1:Hid (frW f = true):=d1
   obtain ⟨a,ha⟩:∃ a,askW s n p = a:=⟨_,rfl⟩
   have HAK:=Lib.hid ha
   have hC:=ask_any ⟨a0,c0,a1,c1,a2,c2,a3,c3,a4,c4,a5,c5,a6,c6,a7,c7⟩ s n p w1 (HA.out.ext B1) HOK.out
   rw [ha] at hC
   have HC2:=Lib.hid hC
   clear hC ha
   have zkX:=kX.lt
   obtain ⟨q0,q1,q2,q3,q4,q5,q6,q7,q8,q9,q10⟩:=zc11 kX
   go_wp2_with (go_at_call 48;refine (swFrame_b _ _ d1 _).mono ?_;rintro e w' ⟨rfl,rfl⟩)
   refine HC2.out.mono ?_
   rintro e2 w2 ⟨rfl,hb2⟩
   have B2:=zbt B1 hb2
   replace kX:=kX.below_ hb2 kX.lt
   replace kR:=kR.below_ hb2 kR.lt
   clear hb2
   clear zkX q0 q1 q2 q3 q4 q5 q6 q7 q8 q9 q10
   by_cases a0:a = 0
   ·subst a0
    obtain ⟨⟨n0,n1,p0,p1⟩,hnw,hrf⟩:=askW_zero.1 HAK.out
    obtain ⟨k,rfl⟩:∃ k:Nat,n = k:=⟨n.toNat,by omega⟩
    have hk:k < s.sl.busy.length:=by rw [HOK.out.sl.blen];omega
    obtain ⟨bb,off,y,hA1,hbl,hx,hc⟩:=(HA.out.sw.r1.ext B2).at_ hk
    have HX:Hid (bsyT s.sl k = y):=by show _ = _;unfold bsyT;rw [List.getD_eq_getElem?_getD,hx];rfl
    have cf:w2.cell? ⟨bb,off + k,none⟩ = some (.bool y):=by
     have:=hc 0 _ rfl
     rwa [show off + k * boolE.sz + 0 = off + k from by show off + k * 1 + 0 = _;omega] at this
    dsimp only at hA1
    subst hA1
    have i1:(k:Int) < s.sl.busy.length:=by omega
    clear n0 n1 p0 p1 hnw hrf hx hc hk
    cases y with
    | true =>
     have HE:Hid (Q = (.zero,10)):=by show _ = _;rw [← HQ.out];unfold redW;rw [HZZ.out,if_neg (by simp),HD1.out,if_neg (by simp),HAK.out,if_neg (by simp),Int.toNat_natCast,HX.out,Bool.true_or,if_pos rfl]
     have zkX:=kX.lt
     have x2:=zc kX 2
     have ztR:=kR.lt
     obtain ⟨t0,t1,t2,t3,t4,t5,t6,t7,t8,t9,t10⟩:=zc11 kR
     obtain ⟨tf0,tf1,tf2,tf3,tf4,tf5,tf6,tf7,tf8,tf9,tf10,-⟩:=zf kR
     go_wp2_with fail
     obtain ⟨W,hW⟩:∃ W,setN w2 (w.heap.size + 1) 0 zkz = W:=⟨_,rfl⟩
     have hWn:=zs11 hW
     have kW:=zsw hW kR
     have bW:=zbw hW B2 (by omega)
     rw [hWn]
     clear hWn hW t0 tf0 t1 tf1 t2 tf2 t3 tf3 t4 tf4 t5 tf5 t6 tf6 t7 tf7 t8 tf8 t9 tf9 t10 tf10
     refine bodyPost_ret (by simp [results,Tryz.results30,go_sem,zc11 kW] <;> rfl) rfl ?_
     rw [HE.out]
     exact ⟨.zero,rfl,SwO.zero,bW⟩
    | false =>
     obtain ⟨us,hus⟩:∃ b,usW s f = b:=⟨_,rfl⟩
     have HUS:=Lib.hid hus
     have hF:=hasFrame_any ⟨a0,c0,some ⟨bb,off,none⟩,c1,a2,c2,a3,c3,a4,c4,a5,c5,a6,c6,a7,c7⟩ s f w2 (HA.out.sw.r6.ext B2) HA.out.few.f6
     rw [hus] at hF
     have HF:=Lib.hid hF
     clear hF hus
     have zkX:=kX.lt
     obtain ⟨q0,q1,q2,q3,q4,q5,q6,q7,q8,q9,q10⟩:=zc11 kX
     go_wp2_with fail
     refine HF.out.mono ?_
     rintro e3 w3 ⟨rfl,hb3⟩
     have B3:=zbt B2 hb3
     replace kX:=kX.below_ hb3 kX.lt
     replace kR:=kR.below_ hb3 kR.lt
     clear hb3
     clear zkX q0 q1 q2 q3 q4 q5 q6 q7 q8 q9 q10
     clear cf
     cases us with
     | true =>
      have HE:Hid (Q = (.zero,10)):=by show _ = _;rw [← HQ.out];unfold redW;rw [HZZ.out,if_neg (by simp),HD1.out,if_neg (by simp),HAK.out,if_neg (by simp),Int.toNat_natCast,HX.out,HUS.out,Bool.false_or,if_pos rfl]
      have ztR:=kR.lt
      obtain ⟨t0,t1,t2,t3,t4,t5,t6,t7,t8,t9,t10⟩:=zc11 kR
      obtain ⟨tf0,tf1,tf2,tf3,tf4,tf5,tf6,tf7,tf8,tf9,tf10,-⟩:=zf kR
      go_wp2_with fail
      obtain ⟨W,hW⟩:∃ W,setN w3 (w.heap.size + 1) 0 zkz = W:=⟨_,rfl⟩
      have hWn:=zs11 hW
      have kW:=zsw hW kR
      have bW:=zbw hW B3 (by omega)
      rw [hWn]
      clear hWn hW t0 tf0 t1 tf1 t2 tf2 t3 tf3 t4 tf4 t5 tf5 t6 tf6 t7 tf7 t8 tf8 t9 tf9 t10 tf10
      refine bodyPost_ret (by simp [results,Tryz.results30,go_sem,zc11 kW] <;> rfl) rfl ?_
      rw [HE.out]
      exact ⟨.zero,rfl,SwO.zero,bW⟩
     | false =>
      obtain ⟨-,-,-,-,-,-,-,x7,x8,-⟩:=zc11 kX
      have zkX:=kX.lt
      by_cases r0:s.dk.room ≤ (s.dk.jobs.length:Int)
      ·/- full -/
       have HE:Hid (Q = (.zero,5)):=by show _ = _;rw [← HQ.out];unfold redW;rw [HZZ.out,if_neg (by simp),HD1.out,if_neg (by simp),HAK.out,if_neg (by simp),Int.toNat_natCast,HX.out,HUS.out,if_neg (by simp),if_pos r0]
       have r0b:decide ((s.dk.jobs.length:Int) ≥ s.dk.room) = true:=by simpa using r0
       clear r0
       have ztR:=kR.lt
       obtain ⟨t0,t1,t2,t3,t4,t5,t6,t7,t8,t9,t10⟩:=zc11 kR
       obtain ⟨tf0,tf1,tf2,tf3,tf4,tf5,tf6,tf7,tf8,tf9,tf10,-⟩:=zf kR
       go_wp2_with fail
       obtain ⟨W,hW⟩:∃ W,setN w3 (w.heap.size + 1) 0 zkz = W:=⟨_,rfl⟩
       have hWn:=zs11 hW
       have kW:=zsw hW kR
       have bW:=zbw hW B3 (by omega)
       rw [hWn]
       clear hWn hW t0 tf0 t1 tf1 t2 tf2 t3 tf3 t4 tf4 t5 tf5 t6 tf6 t7 tf7 t8 tf8 t9 tf9 t10 tf10
       refine bodyPost_ret (by simp [results,Tryz.results30,go_sem,zc11 kW] <;> rfl) rfl ?_
       rw [HE.out]
       exact ⟨.zero,rfl,SwO.zero,bW⟩
      ·have r0b:decide ((s.dk.jobs.length:Int) ≥ s.dk.room) = false:=by simpa using r0
       obtain ⟨d,l,hfr,q1,q2,q3,q4⟩:=red_parts HOK.out HD1.out HAK.out (by rw [Int.toNat_natCast];exact HX.out) HUS.out (by omega)
       rw [Int.toNat_natCast] at q1
       have HE:Hid (Q = (describeW { s with sl:=(witT s.sl k (refT s.sl k) true),dk:=⟨s.dk.cells,s.dk.jobs ++ [⟨false,(k:Int),f,.zero⟩],s.dk.room⟩,rd:=s.rd ++ [((k:Int),f,p)] },0)):=by
        show _ = _
        rw [← HQ.out]
        unfold redW
        rw [HZZ.out,if_neg (by simp),HD1.out,if_neg (by simp),HAK.out,if_neg (by simp),Int.toNat_natCast,HX.out,HUS.out,if_neg (by simp),if_neg r0]
        simp only [q1,q2]
       have P1:=Lib.hid q1
       have P2:=Lib.hid q2
       have PF:=Lib.hid hfr
       clear q1 q2 q3 q4 hfr r0
       have HL:=Lib.hid (load_any ⟨a0,c0,some ⟨bb,off,none⟩,c1,a2,c2,a3,c3,a4,c4,a5,c5,a6,c6,a7,c7⟩ s w3 (HA.out.sw.ext B3) HA.out.few)
       clear x7 x8 zkX
       have zkX:=kX.lt
       obtain ⟨q0,q1,q2,q3,q4,q5,q6,q7,q8,q9,q10⟩:=zc11 kX
       go_wp2_with fail
       refine HL.out.mono ?_
       rintro e4 w4 ⟨B,L4,rfl,K4,hb4⟩
       have HKR:w.heap.size + 1 < w3.heap.size:=kR.lt
       have hWR:=Lib.hid (read_work w3.heap.size B L4 s k f p w4 K4 HA.out.few HOK.out.po P1.out P2.out PF.out)
       have B4:=zbt B3 hb4
       replace kX:=kX.below_ hb4 kX.lt
       replace kR:=kR.below_ hb4 kR.lt
       clear hb4
       clear zkX q0 q1 q2 q3 q4 q5 q6 q7 q8 q9 q10
       clear K4
       go_wp2_with fail
       refine hWR.out.mono ?_
       rintro e5 w5 ⟨rfl,⟨⟨b0,k0,b1,k1,b2,k2,b3,k3,b4,k4,b5,k5,b6,k6,b7,k7⟩,K5⟩,hb5⟩
       obtain ⟨S5,hS5⟩:∃ S5,describeW { s with sl:=(witT s.sl k (refT s.sl k) true),dk:=⟨s.dk.cells,s.dk.jobs ++ [⟨false,(k:Int),f,.zero⟩],s.dk.room⟩,rd:=s.rd ++ [((k:Int),f,p)] } = S5:=⟨_,rfl⟩
       rw [hS5] at K5 HE
       have kB6:Blk w5 B 87 (zkx S5 b0 k0 b1 k1 b2 k2 b3 k3 b4 k4 b5 k5 b6 k6 b7 k7).toArray:=K5.blk
       have HO5:=Lib.hid K5.own
       have kR5:=kR.below_ hb5 HKR
       have B5:Below w.heap.size w w5:=B4.trans (hb5.mono (by have:=B3.size;omega))
       clear K5 hS5
       have ztR:=kR5.lt
       have ztB:=kB6.lt
       obtain ⟨t0,t1,t2,t3,t4,t5,t6,t7,t8,t9,t10⟩:=zc11 kR5
       obtain ⟨tf0,tf1,tf2,tf3,tf4,tf5,tf6,tf7,tf8,tf9,tf10,-⟩:=zf kR5
       obtain ⟨u0,u1,u2,u3,u4,u5,u6,u7,u8,u9,u10⟩:=zc11 kB6
       go_wp2_with fail
       obtain ⟨W,hW⟩:∃ W,setN w5 (w.heap.size + 1) 0 (zkx S5 b0 k0 b1 k1 b2 k2 b3 k3 b4 k4 b5 k5 b6 k6 b7 k7) = W:=⟨_,rfl⟩
       have hWn:=zs11 hW
       have kW:=zsw hW kR5
       have bW:=zbw hW B5 (by omega)
       have oW:SwO W w3.heap.size ⟨b0,k0,b1,k1,b2,k2,b3,k3,b4,k4,b5,k5,b6,k6,b7,k7⟩ S5:=by rw [← hW];exact HO5.out.farN HKR _
       rw [hWn]
       clear hWn hW t0 tf0 t1 tf1 t2 tf2 t3 tf3 t4 tf4 t5 tf5 t6 tf6 t7 tf7 t8 tf8 t9 tf9 t10 tf10
       refine bodyPost_ret (by simp [results,Tryz.results30,go_sem,zc11 kW] <;> rfl) rfl ?_
       rw [HE.out]
       exact ⟨⟨b0,k0,b1,k1,b2,k2,b3,k3,b4,k4,b5,k5,b6,k6,b7,k7⟩,rfl,oW.base_ (by have:=B3.size;have:=B5.size;omega),bW⟩
   ·/- asked in vain -/
    have HE:Hid (Q = (.zero,a)):=by show _ = _;rw [← HQ.out];unfold redW;rw [HZZ.out,if_neg (by simp),HD1.out,if_neg (by simp),HAK.out,if_pos (by simpa using a0)]
    have ab:(a != 0) = true:=by simpa using a0
    clear a0
    have ztR:=kR.lt
    obtain ⟨t0,t1,t2,t3,t4,t5,t6,t7,t8,t9,t10⟩:=zc11 kR
    obtain ⟨tf0,tf1,tf2,tf3,tf4,tf5,tf6,tf7,tf8,tf9,tf10,-⟩:=zf kR
    go_wp2_with fail
    obtain ⟨W,hW⟩:∃ W,setN w2 (w.heap.size + 1) 0 zkz = W:=⟨_,rfl⟩
    have hWn:=zs11 hW
    have kW:=zsw hW kR
    have bW:=zbw hW B2 (by omega)
    rw [hWn]
    clear hWn hW t0 tf0 t1 tf1 t2 tf2 t3 tf3 t4 tf4 t5 tf5 t6 tf6 t7 tf7 t8 tf8 t9 tf9 t10 tf10
    refine bodyPost_ret (by simp [results,Tryz.results30,go_sem,zc11 kW] <;> rfl) rfl ?_
    rw [HE.out]
    exact ⟨.zero,rfl,SwO.zero,bW⟩
 ·have HE:Hid (Q = (.zero,z)):=by show _ = _;rw [← HQ.out];unfold redW;rw [HZZ.out,if_pos (by simpa using z0)]
  have zb:(z != 0) = true:=by simpa using z0
  clear z0
  have ztR:=kR.lt
  obtain ⟨t0,t1,t2,t3,t4,t5,t6,t7,t8,t9,t10⟩:=zc11 kR
  obtain ⟨tf0,tf1,tf2,tf3,tf4,tf5,tf6,tf7,tf8,tf9,tf10,-⟩:=zf kR
  go_wp2_with fail
  obtain ⟨W,hW⟩:∃ W,setN w1 (w.heap.size + 1) 0 zkz = W:=⟨_,rfl⟩
  have hWn:=zs11 hW
  have kW:=zsw hW kR
  have bW:=zbw hW B1 (by omega)
  rw [hWn]
  clear hWn hW t0 tf0 t1 tf1 t2 tf2 t3 tf3 t4 tf4 t5 tf5 t6 tf6 t7 tf7 t8 tf8 t9 tf9 t10 tf10
  refine bodyPost_ret (by simp [results,Tryz.results30,go_sem,zc11 kW] <;> rfl) rfl ?_
  rw [HE.out]
  exact ⟨.zero,rfl,SwO.zero,bW⟩
theorem find_parts {s:Swp} (h:OkS s) {n p:Int} (ha:askW s n p = 0):findS s.wr n = match s.wr.findIdx? (fun v => decide (v.1 = n)) with | none => (0,6) | some i => (i,0):=by
 obtain ⟨⟨n0,n1,_,_⟩,_,_⟩:=askW_zero.1 ha;have hl:=h.len;have hc:=h.dk.cells;unfold findS;rw [chkS_zero h.wr,if_neg (by simp),if_pos (by omega)]
 cases s.wr.findIdx? (fun v => decide (v.1 = n)) <;> rfl
theorem cla_parts {s:Swp} (h:OkS s) {n p:Int} (ha:askW s n p = 0) {i:Nat} {x:Wr} (hi:s.wr.findIdx? (fun v => decide (v.1 = n)) = some i) (hx:s.wr[i]? = some x) (h0:x.2.2 = 0):claS s.wr n p = (setC s.wr i p,0):=by
 obtain ⟨⟨_,_,p0,p1⟩,hw,_⟩:=askW_zero.1 ha;have hg:s.wr.getD i (0,0,0) = x:=by rw [List.getD_eq_getElem?_getD,hx];rfl
 have hn:s.wr.findIdx? (fun x => decide (x.2.2 = p)) = none:=by
  rw [List.findIdx?_eq_none_iff];intro v hv
  refine decide_eq_false fun e => ?_
  have hm:(p,v.1) ∈ wtW s:=by
   rw [wtW_eq];exact List.mem_append_left _ (wtL_mem.2 ⟨v,hv,e,rfl,by omega⟩)
  exact hw _ hm rfl
 unfold claS;rw [find_parts h ha,hi];dsimp only;rw [if_neg (by simp),if_pos ⟨p0,p1⟩,if_neg (by simp),hg,if_neg (by simpa using h0),hn,if_neg (by simp)];unfold setC;rw [hg]
theorem SwClaim_any (L:Lay) (s:Swp) (n p:Int) (w:World) (h:SwA w L s) (hz:TZ w) :
  Calls Tryz.prog 32 #[swV L s,.int .i64 n,.int .i64 p] w (SwPost (claW s n p).1 [.int .i64 (claW s n p).2] w):=by
 obtain ⟨a0,c0,a1,c1,a2,c2,a3,c3,a4,c4,a5,c5,a6,c6,a7,c7⟩:=L
 have HA:=Lib.hid h
 have HZ:=Lib.hid hz
 have HW0:0 < w.heap.size:=hz.pos
 obtain ⟨Q,hQ⟩:∃ Q,claW s n p = Q:=⟨_,rfl⟩
 rw [hQ]
 have HQ:=Lib.hid hQ
 clear hQ h hz
 unfold swV swC
 obtain ⟨X,hX⟩:∃ X,(w.alloc (.cells (zkx s a0 c0 a1 c1 a2 c2 a3 c3 a4 c4 a5 c5 a6 c6 a7 c7).toArray 35)).alloc (.cells zkz.toArray 35) = X:=⟨_,rfl⟩
 have kX:=za1 hX
 have kR:=za2 hX
 have BX:Below w.heap.size w X:=by rw [← hX];exact zbl
 obtain ⟨z,hzz⟩:∃ z,chkW s = z:=⟨_,rfl⟩
 have HZZ:=Lib.hid hzz
 have hC:=wCheck_any ⟨a0,c0,a1,c1,a2,c2,a3,c3,a4,c4,a5,c5,a6,c6,a7,c7⟩ s X (HA.out.ext BX) (HZ.out.ext HW0 BX)
 rw [hzz] at hC
 have HC:=Lib.hid hC
 clear hC hzz
 have zkX:=kX.lt
 obtain ⟨q0,q1,q2,q3,q4,q5,q6,q7,q8,q9,q10⟩:=zc11 kX
 go_enter Tryz.func32,Tryz.ntmps32
 go_wp2_with fail
 (try rw [hX])
 clear hX
 refine HC.out.mono ?_
 rintro e1 w1 ⟨rfl,hb1⟩
 have B1:=zbt BX hb1
 replace kX:=kX.below_ hb1 kX.lt
 replace kR:=kR.below_ hb1 kR.lt
 clear hb1
 clear zkX q0 q1 q2 q3 q4 q5 q6 q7 q8 q9 q10
 by_cases z0:z = 0
 ·subst z0
  have HOK:Hid (OkS s):=chkW_ok.1 HZZ.out
  obtain ⟨a,ha⟩:∃ a,askW s n p = a:=⟨_,rfl⟩
  have HAK:=Lib.hid ha
  have hC:=ask_any ⟨a0,c0,a1,c1,a2,c2,a3,c3,a4,c4,a5,c5,a6,c6,a7,c7⟩ s n p w1 (HA.out.ext B1) HOK.out
  rw [ha] at hC
  have HC2:=Lib.hid hC
  clear hC ha
  have zkX:=kX.lt
  obtain ⟨q0,q1,q2,q3,q4,q5,q6,q7,q8,q9,q10⟩:=zc11 kX
  go_wp2_with fail
  refine HC2.out.mono ?_
  rintro e2 w2 ⟨rfl,hb2⟩
  have B2:=zbt B1 hb2
  replace kX:=kX.below_ hb2 kX.lt
  replace kR:=kR.below_ hb2 kR.lt
  clear hb2
  clear zkX q0 q1 q2 q3 q4 q5 q6 q7 q8 q9 q10
  by_cases a0:a = 0
  ·subst a0
   have HFP:=Lib.hid (find_parts HOK.out HAK.out)
   obtain ⟨fi,hfi⟩:∃ fi,s.wr.findIdx? (fun v => decide (v.1 = n)) = fi:=⟨_,rfl⟩
   rw [hfi] at HFP
   have HFI:=Lib.hid hfi
   clear hfi
   cases fi with
   | none =>
    have HE:Hid (Q = (.zero,6)):=by show _ = _;rw [← HQ.out];unfold claW;rw [HZZ.out,if_neg (by simp),HAK.out,if_neg (by simp),HFI.out]
    have zkX:=kX.lt
    obtain ⟨-,-,-,x3,-⟩:=zc11 kX
    go_wp2_with fail
    refine (Find_any a2 c2 s.wr n w2 (HA.out.sw.r2.ext B2).sw HA.out.few.f2 HFP.out).mono ?_
    rintro e3 w3 ⟨rfl,hb3⟩
    have B3:=zbt B2 hb3
    replace kX:=kX.below_ hb3 kX.lt
    replace kR:=kR.below_ hb3 kR.lt
    clear hb3
    clear x3 zkX
    have ztR:=kR.lt
    obtain ⟨t0,t1,t2,t3,t4,t5,t6,t7,t8,t9,t10⟩:=zc11 kR
    obtain ⟨tf0,tf1,tf2,tf3,tf4,tf5,tf6,tf7,tf8,tf9,tf10,-⟩:=zf kR
    go_wp2_with fail
    obtain ⟨W,hW⟩:∃ W,setN w3 (w.heap.size + 1) 0 zkz = W:=⟨_,rfl⟩
    have hWn:=zs11 hW
    have kW:=zsw hW kR
    have bW:=zbw hW B3 (by omega)
    rw [hWn]
    clear hWn hW t0 tf0 t1 tf1 t2 tf2 t3 tf3 t4 tf4 t5 tf5 t6 tf6 t7 tf7 t8 tf8 t9 tf9 t10 tf10
    refine bodyPost_ret (by simp [results,Tryz.results32,go_sem,zc11 kW] <;> rfl) rfl ?_
    rw [HE.out]
    exact ⟨.zero,rfl,SwO.zero,bW⟩
   | some i =>
    have hi:i < s.wr.length:=by
     have:=HFI.out
     rw [List.findIdx?_eq_some_iff_getElem] at this
     exact this.1
    have zkX:=kX.lt
    obtain ⟨-,-,-,x3,-⟩:=zc11 kX
    go_wp2_with fail
    refine (Find_any a2 c2 s.wr n w2 (HA.out.sw.r2.ext B2).sw HA.out.few.f2 HFP.out).mono ?_
    rintro e3 w3 ⟨rfl,hb3⟩
    have B3:=zbt B2 hb3
    replace kX:=kX.below_ hb3 kX.lt
    replace kR:=kR.below_ hb3 kR.lt
    clear hb3
    clear x3 zkX
    obtain ⟨bb,off,y,hA1,hbl,hx,hc⟩:=(HA.out.sw.r2.ext B3).at_ hi
    obtain ⟨y0,y1,y2⟩:=y
    have HX:=Lib.hid hx
    have cf:w3.cell? ⟨bb,off + i * 3 + 2,none⟩ = some (.int .i64 y2):=hc 2 _ rfl
    dsimp only at hA1
    subst hA1
    have i1:(i:Int) < s.wr.length:=by omega
    have zkX:=kX.lt
    have x3:=zc kX 3
    clear hx hc hi
    by_cases y20:y2 = 0
    ·subst y20
     have P1:=Lib.hid (cla_parts HOK.out HAK.out HFI.out HX.out rfl)
     have HE:Hid (Q = ({ s with wr:=setC s.wr i p },0)):=by
      show _ = _
      rw [← HQ.out]
      unfold claW
      rw [HZZ.out,if_neg (by simp),HAK.out,if_neg (by simp),HFI.out]
      dsimp only
      rw [List.getD_eq_getElem?_getD,HX.out,if_neg (by simp)]
     have HL:=Lib.hid (load_any ⟨a0,c0,a1,c1,(some ⟨bb,off,none⟩),c2,a3,c3,a4,c4,a5,c5,a6,c6,a7,c7⟩ s w3 (HA.out.sw.ext B3) HA.out.few)
     clear zkX x3
     have zkX:=kX.lt
     obtain ⟨q0,q1,q2,q3,q4,q5,q6,q7,q8,q9,q10⟩:=zc11 kX
     go_wp2_with fail
     refine HL.out.mono ?_
     rintro e4 w4 ⟨B,⟨b0,k0,b1,k1,b2,k2,b3,k3,b4,k4,b5,k5,b6,k6,b7,k7⟩,rfl,K4,hb4⟩
     have HKR:w.heap.size + 1 < w3.heap.size:=kR.lt
     have HK4:=Lib.hid K4
     have hBlow:w3.heap.size ≤ B:=K4.low
     have kB:Blk w4 B 87 (zkx s b0 k0 b1 k1 b2 k2 b3 k3 b4 k4 b5 k5 b6 k6 b7 k7).toArray:=K4.blk
     have B4:=zbt B3 hb4
     replace kX:=kX.below_ hb4 kX.lt
     replace kR:=kR.below_ hb4 kR.lt
     clear hb4
     clear zkX q0 q1 q2 q3 q4 q5 q6 q7 q8 q9 q10
     clear K4 cf
     have hA:=Claim_own b2 k2 s.wr n p w4 HK4.out.own.o2.sr.sw HA.out.few.f2
     rw [P1.out] at hA
     have HC5:=Lib.hid hA
     clear hA
     have zB:=kB.lt
     obtain ⟨-,-,-,u3,-⟩:=zc11 kB
     go_wp2_with fail
     refine HC5.out.mono ?_
     rintro e5 w5 ⟨A,c,rfl,hcw,hb5,hmine⟩
     dsimp only at hcw hmine
     dsimp only
     have hlen:=hcw.2
     have kB5:=kB.below_ hb5 zB
     have zB5:=kB5.lt
     clear u3 hcw
     obtain ⟨-,-,-,u3,-⟩:=zc11 kB5
     have uf3:=kB5.frozen_ 3
     go_upto_region 16 with fail
     obtain ⟨W5,hW5⟩:∃ W5,w5.setCell ⟨B,3,none⟩ (.slice A (setC s.wr i p).length c) = W5:=⟨_,rfl⟩
     have K5:WkAt W5 w3.heap.size B ⟨b0,k0,b1,k1,A,c,b3,k3,b4,k4,b5,k5,b6,k6,b7,k7⟩ { s with wr:=setC s.wr i p }:=by rw [← hW5];exact HK4.out.writes hb5 (OwnM.of_mine hmine hlen)
     have kR5:Blk W5 (w.heap.size + 1) 35 zkz.toArray:=by rw [← hW5];exact (kR.below_ hb5 kR.lt).far_ (p:=⟨B,3,none⟩) (by show _ ≠ B;omega) _
     have B5:Below w.heap.size w W5:=by rw [← hW5];exact (B4.trans (hb5.mono B4.size)).setCell (p:=⟨B,3,none⟩) (by show w.heap.size ≤ B;have:=B3.size;omega) _
     rw [hW5]
     clear hW5 u3 uf3
     obtain ⟨S5,hS5⟩:∃ S5,{ s with wr:=setC s.wr i p } = S5:=⟨_,rfl⟩
     rw [hS5] at K5 HE
     have kB6:Blk W5 B 87 (zkx S5 b0 k0 b1 k1 A c b3 k3 b4 k4 b5 k5 b6 k6 b7 k7).toArray:=K5.blk
     have HO5:=Lib.hid K5.own
     clear K5 hS5
     have ztR:=kR5.lt
     have ztB:=kB6.lt
     obtain ⟨t0,t1,t2,t3,t4,t5,t6,t7,t8,t9,t10⟩:=zc11 kR5
     obtain ⟨tf0,tf1,tf2,tf3,tf4,tf5,tf6,tf7,tf8,tf9,tf10,-⟩:=zf kR5
     obtain ⟨u0,u1,u2,u3,u4,u5,u6,u7,u8,u9,u10⟩:=zc11 kB6
     go_wp2_with fail
     obtain ⟨W,hW⟩:∃ W,setN W5 (w.heap.size + 1) 0 (zkx S5 b0 k0 b1 k1 A c b3 k3 b4 k4 b5 k5 b6 k6 b7 k7) = W:=⟨_,rfl⟩
     have hWn:=zs11 hW
     have kW:=zsw hW kR5
     have bW:=zbw hW B5 (by omega)
     have oW:SwO W w3.heap.size ⟨b0,k0,b1,k1,A,c,b3,k3,b4,k4,b5,k5,b6,k6,b7,k7⟩ S5:=by rw [← hW];exact HO5.out.farN HKR _
     rw [hWn]
     clear hWn hW t0 tf0 t1 tf1 t2 tf2 t3 tf3 t4 tf4 t5 tf5 t6 tf6 t7 tf7 t8 tf8 t9 tf9 t10 tf10
     refine bodyPost_ret (by simp [results,Tryz.results32,go_sem,zc11 kW] <;> rfl) rfl ?_
     rw [HE.out]
     exact ⟨⟨b0,k0,b1,k1,A,c,b3,k3,b4,k4,b5,k5,b6,k6,b7,k7⟩,rfl,oW.base_ (by have:=B3.size;omega),bW⟩
    ·have HE:Hid (Q = (.zero,10)):=by
      show _ = _
      rw [← HQ.out]
      unfold claW
      rw [HZZ.out,if_neg (by simp),HAK.out,if_neg (by simp),HFI.out]
      dsimp only
      rw [List.getD_eq_getElem?_getD,HX.out,if_pos (by simpa using y20)]
     have yb:(y2 != 0) = true:=by simpa using y20
     clear y20
     have ztR:=kR.lt
     obtain ⟨t0,t1,t2,t3,t4,t5,t6,t7,t8,t9,t10⟩:=zc11 kR
     obtain ⟨tf0,tf1,tf2,tf3,tf4,tf5,tf6,tf7,tf8,tf9,tf10,-⟩:=zf kR
     go_wp2_with fail
     obtain ⟨W,hW⟩:∃ W,setN w3 (w.heap.size + 1) 0 zkz = W:=⟨_,rfl⟩
     have hWn:=zs11 hW
     have kW:=zsw hW kR
     have bW:=zbw hW B3 (by omega)
     rw [hWn]
     clear hWn hW t0 tf0 t1 tf1 t2 tf2 t3 tf3 t4 tf4 t5 tf5 t6 tf6 t7 tf7 t8 tf8 t9 tf9 t10 tf10
     refine bodyPost_ret (by simp [results,Tryz.results32,go_sem,zc11 kW] <;> rfl) rfl ?_
     rw [HE.out]
     exact ⟨.zero,rfl,SwO.zero,bW⟩
  ·/- asked in vain -/
   have HE:Hid (Q = (.zero,a)):=by show _ = _;rw [← HQ.out];unfold claW;rw [HZZ.out,if_neg (by simp),HAK.out,if_pos (by simpa using a0)]
   have ab:(a != 0) = true:=by simpa using a0
   clear a0
   have ztR:=kR.lt
   obtain ⟨t0,t1,t2,t3,t4,t5,t6,t7,t8,t9,t10⟩:=zc11 kR
   obtain ⟨tf0,tf1,tf2,tf3,tf4,tf5,tf6,tf7,tf8,tf9,tf10,-⟩:=zf kR
   go_wp2_with fail
   obtain ⟨W,hW⟩:∃ W,setN w2 (w.heap.size + 1) 0 zkz = W:=⟨_,rfl⟩
   have hWn:=zs11 hW
   have kW:=zsw hW kR
   have bW:=zbw hW B2 (by omega)
   rw [hWn]
   clear hWn hW t0 tf0 t1 tf1 t2 tf2 t3 tf3 t4 tf4 t5 tf5 t6 tf6 t7 tf7 t8 tf8 t9 tf9 t10 tf10
   refine bodyPost_ret (by simp [results,Tryz.results32,go_sem,zc11 kW] <;> rfl) rfl ?_
   rw [HE.out]
   exact ⟨.zero,rfl,SwO.zero,bW⟩
 ·have HE:Hid (Q = (.zero,z)):=by show _ = _;rw [← HQ.out];unfold claW;rw [HZZ.out,if_pos (by simpa using z0)]
  have zb:(z != 0) = true:=by simpa using z0
  clear z0
  have ztR:=kR.lt
  obtain ⟨t0,t1,t2,t3,t4,t5,t6,t7,t8,t9,t10⟩:=zc11 kR
  obtain ⟨tf0,tf1,tf2,tf3,tf4,tf5,tf6,tf7,tf8,tf9,tf10,-⟩:=zf kR
  go_wp2_with fail
  obtain ⟨W,hW⟩:∃ W,setN w1 (w.heap.size + 1) 0 zkz = W:=⟨_,rfl⟩
  have hWn:=zs11 hW
  have kW:=zsw hW kR
  have bW:=zbw hW B1 (by omega)
  rw [hWn]
  clear hWn hW t0 tf0 t1 tf1 t2 tf2 t3 tf3 t4 tf4 t5 tf5 t6 tf6 t7 tf7 t8 tf8 t9 tf9 t10 tf10
  refine bodyPost_ret (by simp [results,Tryz.results32,go_sem,zc11 kW] <;> rfl) rfl ?_
  rw [HE.out]
  exact ⟨.zero,rfl,SwO.zero,bW⟩
theorem relW_append (a b:List Wr) (p:Int):relW (a ++ b) p = relW a p ++ relW b p:=by unfold relW;rw [List.map_append]
theorem rel_drop {l:List Wr} {k:Nat} {x:Wr} (hx:l[k]? = some x):l.drop k = x :: l.drop (k + 1):=by
 obtain ⟨hk,e⟩:=List.getElem?_eq_some_iff.1 hx;rw [List.drop_eq_getElem_cons hk,e]
theorem relW_len (l:List Wr) (p:Int):(relW l p).length = l.length:=by unfold relW;simp
theorem rel_len {l:List Wr} {k:Nat} {p:Int}:(relW (l.take k) p ++ l.drop k).length = l.length:=by
 rw [List.length_append,relW_len,← List.length_append,List.take_append_drop]
theorem rel_at {l:List Wr} {k:Nat} {x:Wr} {p:Int} (hx:l[k]? = some x):(relW (l.take k) p ++ l.drop k)[k]? = some x:=by
 obtain ⟨hk,e⟩:=List.getElem?_eq_some_iff.1 hx;have hl:(relW (l.take k) p).length = k:=by rw [relW_len,List.length_take];omega
 rw [List.getElem?_append_right (by omega),hl,Nat.sub_self,rel_drop hx];rfl
theorem rel_hit {l:List Wr} {k:Nat} {x:Wr} {p:Int} (hx:l[k]? = some x) (hp:x.2.2 = p):(relW (l.take k) p ++ l.drop k).set k (x.1,x.2.1,0) = relW (l.take (k + 1)) p ++ l.drop (k + 1):=by
 obtain ⟨hk,e⟩:=List.getElem?_eq_some_iff.1 hx;have hl:(relW (l.take k) p).length = k:=by rw [relW_len,List.length_take];omega
 rw [List.set_append_right _ _ (by omega),hl,Nat.sub_self,rel_drop hx,List.set_cons_zero,List.take_add_one,hx,relW_append];show _ = (relW (l.take k) p ++ relW [x] p) ++ _;rw [List.append_assoc]
 congr 1
 unfold relW;simp [hp]
theorem rel_miss {l:List Wr} {k:Nat} {x:Wr} {p:Int} (hx:l[k]? = some x) (hp:x.2.2 ≠ p):relW (l.take k) p ++ l.drop k = relW (l.take (k + 1)) p ++ l.drop (k + 1):=by
 rw [rel_drop hx,List.take_add_one,hx,relW_append];show _ = (relW (l.take k) p ++ relW [x] p) ++ _;rw [List.append_assoc]
 congr 1
 unfold relW;simp [hp]
theorem relW_none {l:List Wr} {p:Int} (h:∀ v ∈ l,v.2.2 ≠ p):relW l p = l:=by
 unfold relW
 conv => rhs;rw [← List.map_id l]
 exact List.map_congr_left fun v hv => by simp [h v hv]
theorem relW_one {l:List Wr} (hp:l.Pairwise apart) {i:Nat} {x:Wr} {p:Int} (hx:l[i]? = some x) (h0:p ≠ 0) (he:x.2.2 = p):relW l p = l.set i (x.1,x.2.1,0):=by
 apply List.ext_getElem?;intro j;unfold relW;rw [List.getElem?_map,List.getElem?_set];obtain ⟨hi,ei⟩:=List.getElem?_eq_some_iff.1 hx
 by_cases e:i = j
 ·subst e
  rw [if_pos rfl,if_pos hi,hx];simp [he]
 ·rw [if_neg e]
  cases hj:l[j]? with
  | none => rfl
  | some y =>
   obtain ⟨hj1,ej⟩:=List.getElem?_eq_some_iff.1 hj
   have hne:y.2.2 ≠ p:=by
    rcases Nat.lt_or_gt_of_ne e with h | h
    ·have:=(List.pairwise_iff_getElem.1 hp i j hi hj1 h).2.2
     rw [ei,ej] at this
     rcases this with h2 | h2
     ·rw [h2];exact fun h => h0 h.symm
     ·rw [he] at h2;exact fun h => h2 h.symm
    ·have:=(List.pairwise_iff_getElem.1 hp j i hj1 hi h).2.2
     rw [ei,ej] at this
     rcases this with h2 | h2
     ·rw [he] at h2;exact absurd h2 h0
     ·rw [he] at h2;exact h2
   simp [hne]
theorem rel_write {s:Swp} (h:OkS s) {p m:Int} (hp:1 ≤ p∧p ≤ 8) (hl:lkV (wtV s) p = some (true,m)):uncS s.wr p = (relW s.wr p,true,0)∧relW s.rd p = s.rd:=by
 have hn:=((wtok_iff s).1 (wtok_of h)).1;have hm:=(lkV_some (l:=wtV s) hn).1 hl
 have hwr:∃ v ∈ s.wr,v.2.2 = p:=by
  rcases List.mem_append.1 hm with hm | hm
  ·obtain ⟨v,hv,h0,e⟩:=wtv_mem.1 hm
   injection e with e1 e2
   exact ⟨v,hv,e1.symm⟩
  ·obtain ⟨v,hv,h0,e⟩:=wtv_mem.1 hm
   injection e with e1 e2
   injection e2 with e2 _
   cases e2
 obtain ⟨v,hv,ev⟩:=hwr;refine ⟨?_,relW_none fun u hu e => ?_⟩
 ·have hc:clmS s.wr p = match s.wr.findIdx? (fun x => decide (x.2.2 = p)) with | none => (-1,0) | some i => ((i:Int),0):=by
   unfold clmS;rw [chkS_zero h.wr,if_neg (by simp),if_pos hp]
   cases s.wr.findIdx? (fun x => decide (x.2.2 = p)) <;> rfl
  cases hf:s.wr.findIdx? (fun x => decide (x.2.2 = p)) with
  | none =>
   rw [List.findIdx?_eq_none_iff] at hf;have:=hf v hv;simp [ev] at this
  | some i =>
   rw [hf] at hc;rw [List.findIdx?_eq_some_iff_getElem] at hf;obtain ⟨hi,h1,_⟩:=hf;have hx:s.wr[i]? = some s.wr[i]:=List.getElem?_eq_getElem hi;have hg:s.wr.getD i (0,0,0) = s.wr[i]:=by rw [List.getD_eq_getElem?_getD,hx];rfl
   unfold uncS;rw [hc];dsimp only;rw [if_neg (by simp),if_neg (by omega),Int.toNat_natCast,hg,relW_one h.wr.2.2 hx (by omega) (by simpa using h1)]
 ·have hm2:(p,false,u.1) ∈ wtV s:=List.mem_append_right _ (wtv_mem.2 ⟨u,hu,by omega,by rw [e]⟩)
  have:=(lkV_some (l:=wtV s) hn).2 hm2;rw [hl] at this;injection this with this
  injection this with this
  cases this
theorem rel_read {s:Swp} (h:OkS s) {p:Int} (hp:1 ≤ p∧p ≤ 8) (hl:∀ m,lkV (wtV s) p ≠ some (true,m)):relW s.wr p = s.wr:=by
 have hn:=((wtok_iff s).1 (wtok_of h)).1
 refine relW_none fun u hu e => ?_
 have hm2:(p,true,u.1) ∈ wtV s:=List.mem_append_left _ (wtv_mem.2 ⟨u,hu,by omega,by rw [e]⟩);exact hl _ ((lkV_some (l:=wtV s) hn).2 hm2)
theorem rdE_flat (l:List Wr):rdE.flat l = cellsW l:=by
 unfold cellsW
 induction l with
 | nil => rfl
 | cons x l ih =>
  show Value.int .i64 x.1 :: .int .i64 x.2.1 :: .int .i64 x.2.2 :: rdE.flat l = _;rw [ih];rfl
theorem rdE_put {w:World} {base c:Nat} {A:Option Addr} {l:List Wr} {i:Nat} {x:Wr} (h:OwnE rdE w base A c l) (hx:l[i]? = some x) :
  ∃ g cur,A = some ⟨g,0,none⟩∧base ≤ g∧Blk w g rdE.e cur∧w.cell? ⟨g,i * 3 + 2,none⟩ = some (.int .i64 x.2.2)∧∀ p,OwnE rdE (w.setCell ⟨g,i * 3 + 2,none⟩ (.int .i64 p)) base A c (l.set i (x.1,x.2.1,p)):=by
 obtain ⟨hi,ei⟩:=List.getElem?_eq_some_iff.1 hx
 have hr:OwnR rdE w base (.slice A l.length c) l:=h.own.resolve_left (fun e => by rw [e] at hi;simp at hi)
 obtain ⟨g,cur,rfl,_,hg,hB,h1,h2,h3,h4⟩:=hr.blk (by omega)
 refine ⟨g,cur,rfl,hg,hB,?_,fun p => ?_⟩
 ·obtain ⟨b,off,y,e,_,hy,hc⟩:=hr.sr.2.at_ hi
  injection e with e
  injection e with e1 e2
  subst e1 e2
  rw [hx] at hy
  injection hy with hy
  subst hy
  have:=hc 2 _ rfl
  rwa [show 0 + i * rdE.sz + 2 = i * 3 + 2 from by show 0 + i * 3 + 2 = _;omega] at this
 ·have key:OwnR rdE (w.setCell ⟨g,i * 3 + 2,none⟩ (.int .i64 p)) base (.slice (some ⟨g,0,none⟩) (l.set i (x.1,x.2.1,p)).length c) (l.set i (x.1,x.2.1,p)):=by
   unfold OwnR
   refine ⟨rdE.flat_length _,.inr ⟨g,c,cur.setIfInBounds (i * 3 + 2) (.int .i64 p),rfl,hg,hB.set_ _ _,by rw [List.length_set];exact h1,h2,by simpa using h3,?_⟩⟩
   rw [List.length_set,Array.toList_setIfInBounds,List.take_set,h4,rdE_flat,rdE_flat]
   unfold cellsW
   rw [flat_set p l i x hx,List.map_set]
  exact ⟨.inr key,.inr key⟩
theorem WkAt.putR {w:World} {base B:Nat} {L:Lay} {s:Swp} (h:WkAt w base B L s) {i:Nat} {x:Wr} (hx:s.rd[i]? = some x) :
  ∃ g,L.a3 = some ⟨g,0,none⟩∧base ≤ g∧g < w.heap.size∧w.cell? ⟨g,i * 3 + 2,none⟩ = some (.int .i64 x.2.2)∧w.frozen? ⟨g,i * 3 + 2,none⟩ = false∧∀ p,WkAt (w.setCell ⟨g,i * 3 + 2,none⟩ (.int .i64 p)) base B L { s with rd:=s.rd.set i (x.1,x.2.1,p) }:=by
 obtain ⟨g,cur,e,hg,hB,hc,hp⟩:=rdE_put h.own.o3 hx
 refine ⟨g,e,hg,hB.lt,hc,hB.frozen_ _,fun p => ⟨?_,?_,h.low⟩⟩
 ·have hne:B ≠ g:=by
   intro e2
   have h1:=h.blk
   rw [e2] at h1
   unfold Blk at h1 hB
   rw [hB] at h1
   injection h1 with h1
   injection h1 with _ h1
   revert h1
   show ¬ rdE.e = _
   decide
  have:=h.blk.far_ (p:=⟨g,i * 3 + 2,none⟩) hne (.int .i64 p)
  unfold swC at this ⊢
  dsimp only
  rw [List.length_set]
  exact this
 ·have x:=h.own
  exact ⟨x.o0.farB hB (by decide) _ _,x.o1.farB hB (by decide) _ _,x.o2.farB hB (by decide) _ _,hp p,x.o4.farB hB (by decide) _ _,x.o5.farB hB (by decide) _ _,x.o6.farB hB (by decide) _ _,x.o7.farB hB (by decide) _ _,x.p0,x.p7⟩
end Go.Proofs.YthijbipidbjpfaaGreatDoor
