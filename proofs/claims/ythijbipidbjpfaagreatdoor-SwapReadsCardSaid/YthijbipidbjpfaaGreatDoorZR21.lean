import Derived.Test.YthijbipidbjpfaaGreatDoorZR20
import Derived.Test.YthijbipidbjpfaaGreatDoorZR00
import Derived.Test.YthijbipidbjpfaaGreatDoorZR04
import Derived.Test.YthijbipidbjpfaaGreatDoorZR14
import Derived.Test.YthijbipidbjpfaaGreatDoorZR06
import Derived.Test.YthijbipidbjpfaaGreatDoorZR03
import Derived.Test.YthijbipidbjpfaaGreatDoorZR15
set_option linter.unusedSimpArgs false
set_option linter.unusedVariables false
set_option maxRecDepth 100000
set_option maxHeartbeats 8000000
namespace Go.Proofs.YthijbipidbjpfaaGreatDoor
open Go.RowKit Go.Maps
def dnC (d:Dn):List Value:=.bool d.job.wr :: .int .i64 d.job.slot :: .int .i64 d.job.frame :: .int .i64 d.proc :: ctC d.job.data
def dnV (d:Dn):Value:=.agg (dnC d).toArray
def CpPost (R:Swp × Dn × Int) (w:World) (e:Ending) (w':World):Prop:=∃ L,e = .returned (.tuple #[swV L R.1,dnV R.2.1,.int .i64 R.2.2])∧SwO w' w.heap.size L R.1∧Below w.heap.size w w'
theorem cmp_args {s:Swp} (h:OkS s) {k:Nat} {j:Jb} (hj:s.dk.jobs[k]? = some j):∃ (D:Dsk) (P:Pol) (T1 T2:Sts) (dd:Int) (bb bu:Bool),s.desc[k]? = some dd∧cmpD s.dk k = (D,dnJ s.dk j,0)∧gvP s.po dd = (P,0)∧EndW s (dnJ s.dk j) (outW s.wr j.slot) (outW s.rd j.slot) (prcW s j) ∧
  setT s.sl (dnJ s.dk j).slot = (T1,bb,0)∧T1.refs.length = s.sl.refs.length∧T1.busy.length = s.sl.busy.length∧(prcW s j ≠ 0→unrT T1 (dnJ s.dk j).slot = (T2,bu,0))∧(prcW s j = 0→T2 = T1)∧dnS s k j = ⟨s.cap,T2,outW s.wr j.slot,outW s.rd j.slot,s.desc.eraseIdx k,D,P⟩:=by
 have hk:=(List.getElem?_eq_some_iff.1 hj).1
 have hj':s.dk.jobs[(k:Int).toNat]? = some j:=by rw [Int.toNat_natCast];exact hj
 obtain ⟨p1,p2,p3,p4,p5,p6,p7,p8,p9,p10⟩:=cmp_parts h (n:=k) (by omega) hj'
 rw [Int.toNat_natCast] at p4
 obtain ⟨d1,d2,d3⟩:=dnJ_wr s.dk j
 obtain ⟨dd,hdd⟩:∃ d,s.desc[k]? = some d:=⟨_,List.getElem?_eq_getElem (by have:=h.dlen;omega)⟩
 have hg:s.desc.getD k 0 = dd:=by rw [List.getD_eq_getElem?_getD,hdd];rfl
 rw [hg] at p4
 have hgv:=gvP_ok h.po p4
 have hcm:=(cmpD_ok h.dk (n:=k) (by omega) hj').1
 obtain ⟨⟨T1,bb,e1⟩,hT1⟩:∃ t,setT s.sl j.slot = t:=⟨_,rfl⟩
 obtain ⟨⟨P,e2⟩,hP⟩:∃ t,gvP s.po dd = t:=⟨_,rfl⟩
 rw [hT1] at p5 p6
 rw [hP] at hgv
 dsimp only at p5 p6 hgv
 subst p6
 have e20:=hgv.1
 subst e20
 have hend:EndW s (dnJ s.dk j) (outW s.wr j.slot) (outW s.rd j.slot) (prcW s j):=by
  unfold EndW
  rw [d1,d2]
  refine ⟨fun hw => ?_,fun hw => ?_⟩
  ·obtain ⟨q1,v,_,_,q2,q3⟩:=p9 hw
   exact ⟨v,q2,q3,q1⟩
  ·obtain ⟨q1,i,v,q2,q3,q4,q5⟩:=p10 hw
   exact ⟨i,v,q2,q3,q4,q5,q1⟩
 by_cases hp:prcW s j = 0
 ·refine ⟨_,P,T1,T1,dd,bb,false,hdd,hcm,hP,hend,by rw [d2];exact hT1,by rw [p5];simp [witT],by rw [p5];simp [witT],fun h => absurd hp h,fun _ => rfl,?_⟩
  unfold dnS
  rw [if_pos hp,Int.toNat_natCast,hg,hP,p5]
 ·obtain ⟨q1,q2⟩:=p8 hp
  obtain ⟨⟨T2,bu,e3⟩,hT2⟩:∃ t,unrT T1 j.slot = t:=⟨_,rfl⟩
  rw [← p5,hT2] at q1 q2
  dsimp only at q1 q2
  subst q2
  refine ⟨_,P,T1,T2,dd,bb,bu,hdd,hcm,hP,hend,by rw [d2];exact hT1,by rw [p5];simp [witT],by rw [p5];simp [witT],fun _ => by rw [d2];exact hT2,fun h => absurd h hp,?_⟩
  unfold dnS
  rw [if_neg hp,Int.toNat_natCast,hg,hP,q1]
theorem Complete_any (L:Lay) (s:Swp) (n:Int) (w:World) (h:SwA w L s) (hz:TZ w) :
  Calls Tryz.prog 24 #[swV L s,.int .i64 n] w (CpPost (cmpW s n) w):=by
 obtain ⟨a0,c0,a1,c1,a2,c2,a3,c3,a4,c4,a5,c5,a6,c6,a7,c7⟩:=L
 have HA:=Lib.hid h
 have HZ:=Lib.hid hz
 have HW0:0 < w.heap.size:=hz.pos
 obtain ⟨Q,hQ⟩:∃ Q,cmpW s n = Q:=⟨_,rfl⟩
 rw [hQ]
 have HQ:=Lib.hid hQ
 clear hQ h hz
 unfold swV swC
 obtain ⟨X,hX⟩:∃ X,((w.alloc (.cells (zkx s a0 c0 a1 c1 a2 c2 a3 c3 a4 c4 a5 c5 a6 c6 a7 c7).toArray 35)).alloc (.cells zkz.toArray 35)).alloc (.cells (zkn false 0 0 0 0 0 0 0 0 0 0 0).toArray 55) = X:=⟨_,rfl⟩
 have kX:Blk X w.heap.size 35 (zkx s a0 c0 a1 c1 a2 c2 a3 c3 a4 c4 a5 c5 a6 c6 a7 c7).toArray:=by rw [← hX];exact ((Blk.new_ rfl rfl).alloc_ _).alloc_ _
 have kR:Blk X (w.heap.size + 1) 35 zkz.toArray:=by rw [← hX];exact (Blk.new_ (by simp) rfl:Blk _ (w.heap.size + 1) _ _).alloc_ _
 have kE:Blk X (w.heap.size + 2) 55 (zkn false 0 0 0 0 0 0 0 0 0 0 0).toArray:=by rw [← hX];exact Blk.new_ (by simp) rfl
 have BX:Below w.heap.size w X:=by rw [← hX];exact zbl
 obtain ⟨z,hzz⟩:∃ z,chkW s = z:=⟨_,rfl⟩
 have HZZ:=Lib.hid hzz
 have hC:=wCheck_any ⟨a0,c0,a1,c1,a2,c2,a3,c3,a4,c4,a5,c5,a6,c6,a7,c7⟩ s X (HA.out.ext BX) (HZ.out.ext HW0 BX)
 rw [hzz] at hC
 have HC:=Lib.hid hC
 clear hC hzz
 have zkX:=kX.lt
 obtain ⟨q0,q1,q2,q3,q4,q5,q6,q7,q8,q9,q10⟩:=zc11 kX
 go_enter Tryz.func24,Tryz.ntmps24
 go_wp2_with fail
 (try rw [hX])
 clear hX
 refine HC.out.mono ?_
 rintro e1 w1 ⟨rfl,hb1⟩
 have B1:=zbt BX hb1
 replace kX:=kX.below_ hb1 kX.lt
 replace kR:=kR.below_ hb1 kR.lt
 replace kE:=kE.below_ hb1 kE.lt
 clear hb1
 clear zkX q0 q1 q2 q3 q4 q5 q6 q7 q8 q9 q10
 by_cases z0:z = 0
 ·subst z0
  have HOK:Hid (OkS s):=chkW_ok.1 HZZ.out
  by_cases n0:n < 0
  ·/- below -/
   have HE:Hid (Q = (.zero,.zero,6)):=by show _ = _;rw [← HQ.out];unfold cmpW;rw [HZZ.out,if_neg (by simp),if_pos (.inl n0)]
   have n0b:decide (n < 0) = true:=by simpa using n0
   clear n0
   have ztR:=kR.lt
   have ztE:=kE.lt
   obtain ⟨t0,t1,t2,t3,t4,t5,t6,t7,t8,t9,t10⟩:=zc11 kR
   obtain ⟨tf0,tf1,tf2,tf3,tf4,tf5,tf6,tf7,tf8,tf9,tf10,-⟩:=zf kR
   obtain ⟨v0,v1,v2,v3,v4,v5,v6,v7,v8,v9,v10,v11⟩:=zc12 kE
   obtain ⟨vf0,vf1,vf2,vf3,vf4,vf5,vf6,vf7,vf8,vf9,vf10,vf11⟩:=zf kE
   go_wp2_with fail
   obtain ⟨Z,hZ⟩:∃ Z,setN (setN w1 (w.heap.size + 1) 0 zkz) (w.heap.size + 2) 0 (zkn false 0 0 0 0 0 0 0 0 0 0 0) = Z:=⟨_,rfl⟩
   have hZn:=zt hZ
   have kZ1:Blk Z (w.heap.size + 1) 35 zkz.toArray:=by rw [← hZ];exact (blk_setN kR _ rfl).kept (grown_setN _ _ _ _) (by simp)
   have kZ2:Blk Z (w.heap.size + 2) 55 (zkn false 0 0 0 0 0 0 0 0 0 0 0).toArray:=by rw [← hZ];exact blk_setN (kE.kept (grown_setN _ _ _ _) (by simp)) _ rfl
   have bZ:Below w.heap.size w Z:=by rw [← hZ];exact below_setN (below_setN B1 (by omega) _) (by omega) _
   rw [hZn]
   clear hZn hZ t0 tf0 t1 tf1 t2 tf2 t3 tf3 t4 tf4 t5 tf5 t6 tf6 t7 tf7 t8 tf8 t9 tf9 t10 tf10 v0 vf0 v1 vf1 v2 vf2 v3 vf3 v4 vf4 v5 vf5 v6 vf6 v7 vf7 v8 vf8 v9 vf9 v10 vf10 v11 vf11
   obtain ⟨rp0,rp1,rp2,rp3,rp4,rp5,rp6,rp7,rp8,rp9,rp10⟩:=zc11 kZ1
   refine bodyPost_ret (by simp [results,Tryz.results24,go_sem,rp0,rp1,rp2,rp3,rp4,rp5,rp6,rp7,rp8,rp9,rp10,zc12 kZ2] <;> rfl) rfl ?_
   rw [HE.out]
   exact ⟨.zero,rfl,SwO.zero,bZ⟩
  ·obtain ⟨k,rfl⟩:∃ k:Nat,n = k:=⟨n.toNat,by omega⟩
   have zkX:=kX.lt
   obtain ⟨-,-,-,-,-,-,-,x7,-⟩:=zc11 kX
   clear n0
   by_cases n1:s.dk.jobs.length ≤ k
   ·/- above -/
    have HE:Hid (Q = (.zero,.zero,6)):=by show _ = _;rw [← HQ.out];unfold cmpW;rw [HZZ.out,if_neg (by simp),if_pos (.inr (by omega))]
    have n1b:decide (s.dk.jobs.length ≤ k) = true:=by simpa using n1
    clear n1
    have ztR:=kR.lt
    have ztE:=kE.lt
    obtain ⟨t0,t1,t2,t3,t4,t5,t6,t7,t8,t9,t10⟩:=zc11 kR
    obtain ⟨tf0,tf1,tf2,tf3,tf4,tf5,tf6,tf7,tf8,tf9,tf10,-⟩:=zf kR
    obtain ⟨v0,v1,v2,v3,v4,v5,v6,v7,v8,v9,v10,v11⟩:=zc12 kE
    obtain ⟨vf0,vf1,vf2,vf3,vf4,vf5,vf6,vf7,vf8,vf9,vf10,vf11⟩:=zf kE
    go_wp2_with fail
    obtain ⟨Z,hZ⟩:∃ Z,setN (setN w1 (w.heap.size + 1) 0 zkz) (w.heap.size + 2) 0 (zkn false 0 0 0 0 0 0 0 0 0 0 0) = Z:=⟨_,rfl⟩
    have hZn:=zt hZ
    have kZ1:Blk Z (w.heap.size + 1) 35 zkz.toArray:=by rw [← hZ];exact (blk_setN kR _ rfl).kept (grown_setN _ _ _ _) (by simp)
    have kZ2:Blk Z (w.heap.size + 2) 55 (zkn false 0 0 0 0 0 0 0 0 0 0 0).toArray:=by rw [← hZ];exact blk_setN (kE.kept (grown_setN _ _ _ _) (by simp)) _ rfl
    have bZ:Below w.heap.size w Z:=by rw [← hZ];exact below_setN (below_setN B1 (by omega) _) (by omega) _
    rw [hZn]
    clear hZn hZ t0 tf0 t1 tf1 t2 tf2 t3 tf3 t4 tf4 t5 tf5 t6 tf6 t7 tf7 t8 tf8 t9 tf9 t10 tf10 v0 vf0 v1 vf1 v2 vf2 v3 vf3 v4 vf4 v5 vf5 v6 vf6 v7 vf7 v8 vf8 v9 vf9 v10 vf10 v11 vf11
    obtain ⟨rp0,rp1,rp2,rp3,rp4,rp5,rp6,rp7,rp8,rp9,rp10⟩:=zc11 kZ1
    refine bodyPost_ret (by simp [results,Tryz.results24,go_sem,rp0,rp1,rp2,rp3,rp4,rp5,rp6,rp7,rp8,rp9,rp10,zc12 kZ2] <;> rfl) rfl ?_
    rw [HE.out]
    exact ⟨.zero,rfl,SwO.zero,bZ⟩
   ·have n1b:decide (s.dk.jobs.length ≤ k) = false:=by simpa using n1
    obtain ⟨j,hj⟩:∃ j,s.dk.jobs[k]? = some j:=⟨_,List.getElem?_eq_getElem (by omega)⟩
    have hQ2:=(cmp_ok HOK.out (n:=k) (by omega) (by rw [Int.toNat_natCast];exact hj)).1
    obtain ⟨D,P,T1,T2,dd,bb,bu,m1,m2,m3,m4,m5,m6,m7,m8,m9,m10⟩:=cmp_args HOK.out hj
    rw [m10] at hQ2
    rw [HQ.out] at hQ2
    have HE:=Lib.hid hQ2
    have HL:=Lib.hid (load_any ⟨a0,c0,a1,c1,a2,c2,a3,c3,a4,c4,a5,c5,a6,c6,a7,c7⟩ s w1 (HA.out.sw.ext B1) HA.out.few)
    clear n1 hQ2 x7 zkX
    have zkX:=kX.lt
    obtain ⟨q0,q1,q2,q3,q4,q5,q6,q7,q8,q9,q10⟩:=zc11 kX
    go_wp2_with fail
    refine HL.out.mono ?_
    rintro e2 w2 ⟨B,L2,rfl,K2,hb2⟩
    have HKR:w.heap.size + 2 < w1.heap.size:=kE.lt
    have hb2s:=hb2.size
    have hBlow:w1.heap.size ≤ B:=K2.low
    have hCW:=Lib.hid (complete_work w1.heap.size B L2 s k w2 K2 HA.out.few m1 m2 m3 m4 m5 (by have:=HA.out.few.f0;omega) (by have:=HA.out.few.f1;omega) m8 m9)
    obtain ⟨pr,hpr⟩:∃ pr,prcW s j = pr:=⟨_,rfl⟩
    obtain ⟨JJ,hJJ⟩:∃ JJ,dnJ s.dk j = JJ:=⟨_,rfl⟩
    rw [hpr,hJJ] at hCW HE
    obtain ⟨jw,js_,jf,⟨e0,e1,e2_,e3,e4,e5,e6,e7⟩⟩:=JJ
    have B2:=zbt B1 hb2
    replace kX:=kX.below_ hb2 kX.lt
    replace kR:=kR.below_ hb2 kR.lt
    replace kE:=kE.below_ hb2 kE.lt
    clear hb2
    clear zkX q0 q1 q2 q3 q4 q5 q6 q7 q8 q9 q10
    clear m1 m2 m3 m4 m5 m6 m7 m8 m9 m10 K2 hpr hJJ hj
    go_wp2_with fail
    refine hCW.out.mono ?_
    rintro e5_ W5 ⟨rfl,⟨⟨b0,k0,b1,k1,b2,k2,b3,k3,b4,k4,b5,k5,b6,k6,b7,k7⟩,K5⟩,hb5⟩
    obtain ⟨S5,hS5⟩:∃ S5,(⟨s.cap,T2,outW s.wr j.slot,outW s.rd j.slot,s.desc.eraseIdx k,D,P⟩:Swp) = S5:=⟨_,rfl⟩
    rw [hS5] at K5 HE
    have kB5:Blk W5 B 87 (zkx S5 b0 k0 b1 k1 b2 k2 b3 k3 b4 k4 b5 k5 b6 k6 b7 k7).toArray:=K5.blk
    have HO4:=Lib.hid K5.own
    have B5:Below w.heap.size w W5:=B2.trans (hb5.mono (by have:=B1.size;omega))
    replace kR:=kR.below_ hb5 (by omega)
    replace kE:=kE.below_ hb5 (by omega)
    clear K5 hS5
    unfold ctC
    dsimp only
    go_upto_region 8 with fail
    obtain ⟨W6,hW6⟩:∃ V,W5.alloc (.cells (zkn jw js_ jf pr e0 e1 e2_ e3 e4 e5 e6 e7).toArray 55) = V:=⟨_,rfl⟩
    have kN:=za hW6
    have BA:=zab hW6
    have B6:=zbt B5 BA
    have kB6:=kB5.below_ BA kB5.lt
    have HO5:=Lib.hid (HO4.out.ext BA)
    replace kR:=kR.below_ BA kR.lt
    replace kE:=kE.below_ BA kE.lt
    (try rw [hW6])
    clear hW6 kB5 HO4
    have hW6s:W5.heap.size < W6.heap.size:=kN.lt
    go_wp2_with fail
    obtain ⟨cv,hcv⟩:∃ V,W6.drew = V:=⟨_,rfl⟩
    have BD:Below W6.heap.size W6 cv:=by rw [← hcv];exact (Below.refl _ _).drew
    have kB7:=kB6.below_ BD kB6.lt
    have kN7:=kN.below_ BD kN.lt
    replace kR:=kR.below_ BD kR.lt
    replace kE:=kE.below_ BD kE.lt
    have HO6:=Lib.hid (HO5.out.ext BD)
    have B7:=zbt B6 BD
    have hcvs:W6.heap.size ≤ cv.heap.size:=BD.size
    have hBw5:B ≠ w.heap.size + 1∧B ≠ w.heap.size + 2∧W5.heap.size ≠ w.heap.size + 1∧W5.heap.size ≠ w.heap.size + 2:=by have:=B5.size;have:=hb5.size;have:=kB7.lt;omega
    have hSof:∀ V,Blk V B 87 (zkx S5 b0 k0 b1 k1 b2 k2 b3 k3 b4 k4 b5 k5 b6 k6 b7 k7).toArray→Blk V W5.heap.size 55 (zkn jw js_ jf pr e0 e1 e2_ e3 e4 e5 e6 e7).toArray→V.cell? ⟨B,0,none⟩ = some (.int .i64 S5.cap)∧V.cell? ⟨B,1,none⟩ = some (.slice b0 S5.sl.refs.length k0)∧V.cell? ⟨B,2,none⟩ = some (.slice b1 S5.sl.busy.length k1)∧V.cell? ⟨B,3,none⟩ = some (.slice b2 S5.wr.length k2)∧V.cell? ⟨B,4,none⟩ = some (.slice b3 S5.rd.length k3)∧V.cell? ⟨B,5,none⟩ = some (.slice b4 S5.desc.length k4)∧V.cell? ⟨B,6,none⟩ = some (.slice b5 S5.dk.cells.length k5)∧V.cell? ⟨B,7,none⟩ = some (.slice b6 S5.dk.jobs.length k6)∧V.cell? ⟨B,8,none⟩ = some (.int .i64 S5.dk.room)∧V.cell? ⟨B,9,none⟩ = some (.int .i64 S5.po.size)∧V.cell? ⟨B,10,none⟩ = some (.slice b7 S5.po.free.length k7)∧V.cell? ⟨W5.heap.size,0,none⟩ = some (.bool jw)∧V.cell? ⟨W5.heap.size,1,none⟩ = some (.int .i64 js_)∧V.cell? ⟨W5.heap.size,2,none⟩ = some (.int .i64 jf)∧V.cell? ⟨W5.heap.size,3,none⟩ = some (.int .i64 pr)∧V.cell? ⟨W5.heap.size,4,none⟩ = some (.int .u64 e0)∧V.cell? ⟨W5.heap.size,5,none⟩ = some (.int .u64 e1)∧V.cell? ⟨W5.heap.size,6,none⟩ = some (.int .u64 e2_)∧V.cell? ⟨W5.heap.size,7,none⟩ = some (.int .u64 e3)∧V.cell? ⟨W5.heap.size,8,none⟩ = some (.int .u64 e4)∧V.cell? ⟨W5.heap.size,9,none⟩ = some (.int .u64 e5)∧V.cell? ⟨W5.heap.size,10,none⟩ = some (.int .u64 e6)∧V.cell? ⟨W5.heap.size,11,none⟩ = some (.int .u64 e7):=fun V k1 k2 => ⟨by simpa using k1.cell_ 0,by simpa using k1.cell_ 1,by simpa using k1.cell_ 2,by simpa using k1.cell_ 3,by simpa using k1.cell_ 4,by simpa using k1.cell_ 5,by simpa using k1.cell_ 6,by simpa using k1.cell_ 7,by simpa using k1.cell_ 8,by simpa using k1.cell_ 9,by simpa using k1.cell_ 10,by simpa using k2.cell_ 0,by simpa using k2.cell_ 1,by simpa using k2.cell_ 2,by simpa using k2.cell_ 3,by simpa using k2.cell_ 4,by simpa using k2.cell_ 5,by simpa using k2.cell_ 6,by simpa using k2.cell_ 7,by simpa using k2.cell_ 8,by simpa using k2.cell_ 9,by simpa using k2.cell_ 10,by simpa using k2.cell_ 11⟩
    have hS:=hSof cv kB7 kN7
    clear kB6 kN BD
    refine wp_region_held_drew (S:=fun V => V.cell? ⟨B,0,none⟩ = some (.int .i64 S5.cap)∧V.cell? ⟨B,1,none⟩ = some (.slice b0 S5.sl.refs.length k0)∧V.cell? ⟨B,2,none⟩ = some (.slice b1 S5.sl.busy.length k1)∧V.cell? ⟨B,3,none⟩ = some (.slice b2 S5.wr.length k2)∧V.cell? ⟨B,4,none⟩ = some (.slice b3 S5.rd.length k3)∧V.cell? ⟨B,5,none⟩ = some (.slice b4 S5.desc.length k4)∧V.cell? ⟨B,6,none⟩ = some (.slice b5 S5.dk.cells.length k5)∧V.cell? ⟨B,7,none⟩ = some (.slice b6 S5.dk.jobs.length k6)∧V.cell? ⟨B,8,none⟩ = some (.int .i64 S5.dk.room)∧V.cell? ⟨B,9,none⟩ = some (.int .i64 S5.po.size)∧V.cell? ⟨B,10,none⟩ = some (.slice b7 S5.po.free.length k7)∧V.cell? ⟨W5.heap.size,0,none⟩ = some (.bool jw)∧V.cell? ⟨W5.heap.size,1,none⟩ = some (.int .i64 js_)∧V.cell? ⟨W5.heap.size,2,none⟩ = some (.int .i64 jf)∧V.cell? ⟨W5.heap.size,3,none⟩ = some (.int .i64 pr)∧V.cell? ⟨W5.heap.size,4,none⟩ = some (.int .u64 e0)∧V.cell? ⟨W5.heap.size,5,none⟩ = some (.int .u64 e1)∧V.cell? ⟨W5.heap.size,6,none⟩ = some (.int .u64 e2_)∧V.cell? ⟨W5.heap.size,7,none⟩ = some (.int .u64 e3)∧V.cell? ⟨W5.heap.size,8,none⟩ = some (.int .u64 e4)∧V.cell? ⟨W5.heap.size,9,none⟩ = some (.int .u64 e5)∧V.cell? ⟨W5.heap.size,10,none⟩ = some (.int .u64 e6)∧V.cell? ⟨W5.heap.size,11,none⟩ = some (.int .u64 e7)) (by kernel_rfl) ?_ (fun hHeld => ?_)
    ·(rw [hcv];exact hS)
    rw [hcv]
    clear hcv
    refine zht 0 ?_
    refine zht 1 ?_
    refine zht 2 ?_
    refine zht 3 ?_
    refine zht 4 ?_
    refine zhr 5 (fun K hK => ?_)
    obtain ⟨t0,t1,t2,t3,t4,t5,t6,t7,t8,t9,t10⟩:=zc11 kR
    obtain ⟨tf0,tf1,tf2,tf3,tf4,tf5,tf6,tf7,tf8,tf9,tf10,-⟩:=zf kR
    have zzkR:=kR.lt
    go_simp
    obtain ⟨cx,hcx⟩:∃ V,setN cv (w.heap.size + 1) 0 (zkx S5 b0 k0 b1 k1 b2 k2 b3 k3 b4 k4 b5 k5 b6 k6 b7 k7) = V:=⟨_,rfl⟩
    rw [zs11 hcx]
    have hgv:cv.grownBy cx (some (w.heap.size + 1)):=by rw [← hcx];exact grown_setN _ _ _ _
    replace kR:Blk cx (w.heap.size + 1) 35 (zkx S5 b0 k0 b1 k1 b2 k2 b3 k3 b4 k4 b5 k5 b6 k6 b7 k7).toArray:=by rw [← hcx];exact blk_setN kR _ rfl
    replace kE:=kE.kept hgv (by simp)
    replace kB7:=kB7.kept hgv (by simp;omega)
    replace kN7:=kN7.kept hgv (by simp;omega)
    have oX:SwO cx w1.heap.size ⟨b0,k0,b1,k1,b2,k2,b3,k3,b4,k4,b5,k5,b6,k6,b7,k7⟩ S5:=by rw [← hcx];exact HO6.out.farN (by omega) _
    have BXX:=zbw hcx B7 (by omega)
    clear hcx hgv hS t0 tf0 t1 tf1 t2 tf2 t3 tf3 t4 tf4 t5 tf5 t6 tf6 t7 tf7 t8 tf8 t9 tf9 t10 tf10
    have hS:=hSof cx kB7 kN7
    refine hK.out _ _ (by exact hS) fun hHeld => ?_
    clear hK K
    (try simp only [Act.put,zy0,zy1,zy2])
    refine zhr 6 (fun K hK => ?_)
    obtain ⟨v0,v1,v2,v3,v4,v5,v6,v7,v8,v9,v10,v11⟩:=zc12 kE
    obtain ⟨vf0,vf1,vf2,vf3,vf4,vf5,vf6,vf7,vf8,vf9,vf10,vf11⟩:=zf kE
    have zzkE:=kE.lt
    go_simp
    obtain ⟨cy,hcx⟩:∃ V,setN cx (w.heap.size + 2) 0 (zkn jw js_ jf pr e0 e1 e2_ e3 e4 e5 e6 e7) = V:=⟨_,rfl⟩
    rw [zs12 hcx]
    have hgv:cx.grownBy cy (some (w.heap.size + 2)):=by rw [← hcx];exact grown_setN _ _ _ _
    replace kE:Blk cy (w.heap.size + 2) 55 (zkn jw js_ jf pr e0 e1 e2_ e3 e4 e5 e6 e7).toArray:=by rw [← hcx];exact blk_setN kE _ rfl
    replace kR:=kR.kept hgv (by simp)
    replace kB7:=kB7.kept hgv (by simp;omega)
    replace kN7:=kN7.kept hgv (by simp;omega)
    have oY:SwO cy w1.heap.size ⟨b0,k0,b1,k1,b2,k2,b3,k3,b4,k4,b5,k5,b6,k6,b7,k7⟩ S5:=by rw [← hcx];exact oX.farN HKR _
    have BY:=zbw hcx BXX (by omega)
    clear hcx hgv hS v0 vf0 v1 vf1 v2 vf2 v3 vf3 v4 vf4 v5 vf5 v6 vf6 v7 vf7 v8 vf8 v9 vf9 v10 vf10 v11 vf11
    have hS:=hSof cy kB7 kN7
    refine hK.out _ _ (by exact hS) fun hHeld => ?_
    clear hK K
    (try simp only [Act.put,zy0,zy1,zy2])
    refine zht 7 ?_
    refine wpAnyH_done (by kernel_rfl) ?_ _
    go_wp2_with fail
    obtain ⟨rp0,rp1,rp2,rp3,rp4,rp5,rp6,rp7,rp8,rp9,rp10⟩:=zc11 kR
    refine bodyPost_ret (by simp [results,Tryz.results24,go_sem,rp0,rp1,rp2,rp3,rp4,rp5,rp6,rp7,rp8,rp9,rp10,zc12 kE] <;> rfl) rfl ?_
    rw [HE.out]
    exact ⟨⟨b0,k0,b1,k1,b2,k2,b3,k3,b4,k4,b5,k5,b6,k6,b7,k7⟩,rfl,oY.base_ (by have:=B1.size;omega),BY⟩
 ·have HE:Hid (Q = (.zero,.zero,z)):=by show _ = _;rw [← HQ.out];unfold cmpW;rw [HZZ.out,if_pos (by simpa using z0)]
  have zb:(z != 0) = true:=by simpa using z0
  clear z0
  have ztR:=kR.lt
  have ztE:=kE.lt
  obtain ⟨t0,t1,t2,t3,t4,t5,t6,t7,t8,t9,t10⟩:=zc11 kR
  obtain ⟨tf0,tf1,tf2,tf3,tf4,tf5,tf6,tf7,tf8,tf9,tf10,-⟩:=zf kR
  obtain ⟨v0,v1,v2,v3,v4,v5,v6,v7,v8,v9,v10,v11⟩:=zc12 kE
  obtain ⟨vf0,vf1,vf2,vf3,vf4,vf5,vf6,vf7,vf8,vf9,vf10,vf11⟩:=zf kE
  go_wp2_with fail
  obtain ⟨Z,hZ⟩:∃ Z,setN (setN w1 (w.heap.size + 1) 0 zkz) (w.heap.size + 2) 0 (zkn false 0 0 0 0 0 0 0 0 0 0 0) = Z:=⟨_,rfl⟩
  have hZn:=zt hZ
  have kZ1:Blk Z (w.heap.size + 1) 35 zkz.toArray:=by rw [← hZ];exact (blk_setN kR _ rfl).kept (grown_setN _ _ _ _) (by simp)
  have kZ2:Blk Z (w.heap.size + 2) 55 (zkn false 0 0 0 0 0 0 0 0 0 0 0).toArray:=by rw [← hZ];exact blk_setN (kE.kept (grown_setN _ _ _ _) (by simp)) _ rfl
  have bZ:Below w.heap.size w Z:=by rw [← hZ];exact below_setN (below_setN B1 (by omega) _) (by omega) _
  rw [hZn]
  clear hZn hZ t0 tf0 t1 tf1 t2 tf2 t3 tf3 t4 tf4 t5 tf5 t6 tf6 t7 tf7 t8 tf8 t9 tf9 t10 tf10 v0 vf0 v1 vf1 v2 vf2 v3 vf3 v4 vf4 v5 vf5 v6 vf6 v7 vf7 v8 vf8 v9 vf9 v10 vf10 v11 vf11
  obtain ⟨rp0,rp1,rp2,rp3,rp4,rp5,rp6,rp7,rp8,rp9,rp10⟩:=zc11 kZ1
  refine bodyPost_ret (by simp [results,Tryz.results24,go_sem,rp0,rp1,rp2,rp3,rp4,rp5,rp6,rp7,rp8,rp9,rp10,zc12 kZ2] <;> rfl) rfl ?_
  rw [HE.out]
  exact ⟨.zero,rfl,SwO.zero,bZ⟩
theorem SwNew_any (N room most:Int) (w:World) (hn:N ≤ 40 ∨ 256 < N):Calls Tryz.prog 22 #[.int .i64 N,.int .i64 room,.int .i64 most] w (SwPost (newW N room most).1 [.int .i64 (newW N room most).2] w):=by
 obtain ⟨Q,hQ⟩:∃ Q,newW N room most = Q:=⟨_,rfl⟩;rw [hQ];have HQ:=Lib.hid hQ;have HN:=Lib.hid hn;clear hQ hn;obtain ⟨X,hX⟩:∃ X,w.alloc (.cells zkz.toArray 35) = X:=⟨_,rfl⟩;have kR:=za hX;have BX:Below w.heap.size w X:=by rw [← hX];exact zbl
 have hXs0:w.heap.size < X.heap.size:=kR.lt
 by_cases m0:most < 1
 ·/- too few -/
  have HE:Hid (Q = (.zero,2)):=by show _ = _;rw [← HQ.out];unfold newW;rw [if_pos (.inl m0)]
  have m0b:decide (most < 1) = true:=by simpa using m0
  clear m0
  go_enter Tryz.func22,Tryz.ntmps22
  have ztR:=kR.lt;obtain ⟨t0,t1,t2,t3,t4,t5,t6,t7,t8,t9,t10⟩:=zc11 kR;obtain ⟨tf0,tf1,tf2,tf3,tf4,tf5,tf6,tf7,tf8,tf9,tf10,-⟩:=zf kR;go_wp2_with fail;obtain ⟨W,hW⟩:∃ W,setN X (w.heap.size) 0 zkz = W:=⟨_,rfl⟩;have hWn:=zs11 hW;have kW:=zsw hW kR;have bW:=zbw hW BX (by omega);rw [hWn];clear hWn hW t0 tf0 t1 tf1 t2 tf2 t3 tf3 t4 tf4 t5 tf5 t6 tf6 t7 tf7 t8 tf8 t9 tf9 t10 tf10;refine bodyPost_ret (by simp [results,Tryz.results22,go_sem,zc11 kW] <;> rfl) rfl ?_;rw [HE.out];exact ⟨.zero,rfl,SwO.zero,bW⟩
 ·have m0b:decide (most < 1) = false:=by simpa using m0
  by_cases m1:16 < most
  ·/- too many -/
   have HE:Hid (Q = (.zero,2)):=by show _ = _;rw [← HQ.out];unfold newW;rw [if_pos (.inr m1)]
   have m1b:decide (most > 16) = true:=by simpa using m1
   clear m0 m1
   go_enter Tryz.func22,Tryz.ntmps22
   have ztR:=kR.lt;obtain ⟨t0,t1,t2,t3,t4,t5,t6,t7,t8,t9,t10⟩:=zc11 kR;obtain ⟨tf0,tf1,tf2,tf3,tf4,tf5,tf6,tf7,tf8,tf9,tf10,-⟩:=zf kR;go_wp2_with fail;obtain ⟨W,hW⟩:∃ W,setN X (w.heap.size) 0 zkz = W:=⟨_,rfl⟩;have hWn:=zs11 hW;have kW:=zsw hW kR;have bW:=zbw hW BX (by omega);rw [hWn];clear hWn hW t0 tf0 t1 tf1 t2 tf2 t3 tf3 t4 tf4 t5 tf5 t6 tf6 t7 tf7 t8 tf8 t9 tf9 t10 tf10;refine bodyPost_ret (by simp [results,Tryz.results22,go_sem,zc11 kW] <;> rfl) rfl ?_;rw [HE.out];exact ⟨.zero,rfl,SwO.zero,bW⟩
  ·have m1b:decide (most > 16) = false:=by simpa using m1
   have HM:Hid (¬ (most < 1 ∨ 16 < most)):=fun h => h.elim m0 m1
   clear m0 m1;obtain ⟨⟨T,zt⟩,hT⟩:∃ t,newT N = t:=⟨_,rfl⟩;obtain ⟨⟨D,zd⟩,hD⟩:∃ t,newD N room = t:=⟨_,rfl⟩;obtain ⟨⟨P,zp⟩,hP⟩:∃ t,newP room = t:=⟨_,rfl⟩;have HT:=Lib.hid hT;have HD:=Lib.hid hD;have HP:=Lib.hid hP;have hC1:=sNew_any N X HN.out;rw [hT] at hC1;have HC1:=Lib.hid hC1;clear hT hD hP hC1
   go_enter Tryz.func22,Tryz.ntmps22
   go_wp2_with fail;(try rw [hX]);clear hX m0b m1b;refine HC1.out.mono ?_;rintro e1 w1 ⟨A,c,A1,c1,rfl,oI,oB,hb1⟩;unfold stV;dsimp only;replace kR:=kR.below_ hb1 kR.lt;have B1:=zbt BX hb1;have hXs:=BX.size;have hs1:=hb1.size;clear hb1;go_upto_region 4 with fail;obtain ⟨V1,hV1⟩:∃ V,w1.alloc (.cells #[.slice A T.refs.length c,.slice A1 T.busy.length c1] 25) = V:=⟨_,rfl⟩;have kS:=za hV1;have BA1:=zab hV1;have HI1:=Lib.hid (oI.ext BA1);have HB1:=Lib.hid (oB.ext BA1);replace kR:=kR.below_ BA1 kR.lt;have B2:=zbt B1 BA1;rw [hV1];have hs1a:=BA1.size;clear hV1 oI oB BA1
   by_cases t0:zt = 0
   ·subst t0
    have hC2:=dNew_any N room V1 HN.out;rw [HD.out] at hC2;have HC2:=Lib.hid hC2;clear hC2;go_wp2_with fail;refine HC2.out.mono ?_;rintro e2 w2 ⟨A5,c5,A6,c6,rfl,oC,oJ,hb2⟩;unfold dkV;dsimp only at oC oJ;dsimp only;replace kR:=kR.below_ hb2 kR.lt;replace kS:=kS.below_ hb2 kS.lt;have HI2:=Lib.hid (HI1.out.ext hb2);have HB2:=Lib.hid (HB1.out.ext hb2);have B3:=zbt B2 hb2;have hV1s:=B2.size;have hs2:=hb2.size;clear hb2;go_upto_region 7 with fail;obtain ⟨V2,hV2⟩:∃ V,w2.alloc (.cells #[.slice A5 D.cells.length c5,.slice A6 D.jobs.length c6,.int .i64 D.room] 31) = V:=⟨_,rfl⟩;have kD:=za hV2;have BA2:=zab hV2;have HI3:=Lib.hid (HI2.out.ext BA2);have HB3:=Lib.hid (HB2.out.ext BA2);have HC3:=Lib.hid (oC.ext BA2);have HJ3:=Lib.hid (oJ.ext BA2);replace kR:=kR.below_ BA2 kR.lt;replace kS:=kS.below_ BA2 kS.lt;have B4:=zbt B3 BA2;rw [hV2];have hs2a:=BA2.size;clear hV2 oC oJ BA2
    by_cases d0:zd = 0
    ·subst d0
     have hC3:=pNew_any room V2;rw [HP.out] at hC3;have HC4:=Lib.hid hC3;clear hC3;go_wp2_with fail;refine HC4.out.mono ?_;rintro e3 w3 ⟨A7,c7,rfl,oP,hb3⟩;unfold poV;dsimp only at oP;dsimp only;replace kR:=kR.below_ hb3 kR.lt;replace kS:=kS.below_ hb3 kS.lt;replace kD:=kD.below_ hb3 kD.lt;have HI4:=Lib.hid (HI3.out.ext hb3);have HB4:=Lib.hid (HB3.out.ext hb3);have HC5:=Lib.hid (HC3.out.ext hb3);have HJ4:=Lib.hid (HJ3.out.ext hb3);have B5:=zbt B4 hb3;have hV2s:=B4.size;have hs3:=hb3.size;clear hb3;go_upto_region 10 with fail;obtain ⟨V3,hV3⟩:∃ V,w3.alloc (.cells #[.int .i64 P.size,.slice A7 P.free.length c7] 33) = V:=⟨_,rfl⟩;have kP:=za hV3;have BA3:=zab hV3;have HI5:=Lib.hid (HI4.out.ext BA3);have HB5:=Lib.hid (HB4.out.ext BA3);have HC6:=Lib.hid (HC5.out.ext BA3);have HJ5:=Lib.hid (HJ4.out.ext BA3);have HP5:=Lib.hid (oP.ext BA3);replace kR:=kR.below_ BA3 kR.lt;replace kS:=kS.below_ BA3 kS.lt;replace kD:=kD.below_ BA3 kD.lt;have B6:=zbt B5 BA3;rw [hV3];clear hV3 oP BA3
     by_cases p0:zp = 0
     ·subst p0
      have HE:Hid (Q = ((⟨most,T,[],[],[],D,P⟩:Swp),0)):=by show _ = _;rw [← HQ.out];unfold newW;rw [if_neg HM.out,HT.out,if_neg (by simp),HD.out,if_neg (by simp),HP.out,if_neg (by simp)]
      have zS:=kS.lt;have zD:=kD.lt;have zP:=kP.lt;obtain ⟨s0,s1⟩:=zc2 kS;obtain ⟨d0,d1,d2⟩:=zc3 kD;obtain ⟨p0,p1⟩:=zc2 kP;have hRs:w.heap.size < X.heap.size:=hXs0;have HO:Hid (SwO V3 X.heap.size ⟨A,c,A1,c1,none,0,none,0,none,0,A5,c5,A6,c6,A7,c7⟩ (⟨most,T,[],[],[],D,P⟩:Swp)):=⟨HI5.out,HB5.out,OwnE.nil.mn,OwnE.nil,OwnE.nil,HC6.out.base_ (by omega),HJ5.out.base_ (by omega),HP5.out.base_ (by omega),fun _ h => absurd rfl h,fun _ h => absurd rfl h⟩;have ztR:=kR.lt;obtain ⟨t0,t1,t2,t3,t4,t5,t6,t7,t8,t9,t10⟩:=zc11 kR;obtain ⟨tf0,tf1,tf2,tf3,tf4,tf5,tf6,tf7,tf8,tf9,tf10,-⟩:=zf kR;go_wp2_with fail;obtain ⟨W,hW⟩:∃ W,setN V3 (w.heap.size) 0 [.int .i64 most,.slice A T.refs.length c,.slice A1 T.busy.length c1,.slice none 0 0,.slice none 0 0,.slice none 0 0,.slice A5 D.cells.length c5,.slice A6 D.jobs.length c6,.int .i64 D.room,.int .i64 P.size,.slice A7 P.free.length c7] = W:=⟨_,rfl⟩;have hWn:=zs11 hW;have kW:=zsw hW kR;have bW:Below w.heap.size w W:=by rw [← hW];exact below_setN B6 (Nat.le_refl _) _
      have oW:SwO W X.heap.size ⟨A,c,A1,c1,none,0,none,0,none,0,A5,c5,A6,c6,A7,c7⟩ (⟨most,T,[],[],[],D,P⟩:Swp):=by rw [← hW];exact HO.out.farN hRs _
      rw [hWn];clear hWn hW t0 tf0 t1 tf1 t2 tf2 t3 tf3 t4 tf4 t5 tf5 t6 tf6 t7 tf7 t8 tf8 t9 tf9 t10 tf10;refine bodyPost_ret (by simp [results,Tryz.results22,go_sem,zc11 kW] <;> rfl) rfl ?_;rw [HE.out];exact ⟨⟨A,c,A1,c1,none,0,none,0,none,0,A5,c5,A6,c6,A7,c7⟩,rfl,oW.base_ (by omega),bW⟩
     ·have HE:Hid (Q = (.zero,zp)):=by show _ = _;rw [← HQ.out];unfold newW;rw [if_neg HM.out,HT.out,if_neg (by simp),HD.out,if_neg (by simp),HP.out,if_pos (by simpa using p0)]
      have yb:(zp != 0) = true:=by simpa using p0
      clear p0;have ztR:=kR.lt;obtain ⟨t0,t1,t2,t3,t4,t5,t6,t7,t8,t9,t10⟩:=zc11 kR;obtain ⟨tf0,tf1,tf2,tf3,tf4,tf5,tf6,tf7,tf8,tf9,tf10,-⟩:=zf kR;go_wp2_with fail;obtain ⟨W,hW⟩:∃ W,setN V3 (w.heap.size) 0 zkz = W:=⟨_,rfl⟩;have hWn:=zs11 hW;have kW:=zsw hW kR;have bW:=zbw hW B6 (by omega);rw [hWn];clear hWn hW t0 tf0 t1 tf1 t2 tf2 t3 tf3 t4 tf4 t5 tf5 t6 tf6 t7 tf7 t8 tf8 t9 tf9 t10 tf10;refine bodyPost_ret (by simp [results,Tryz.results22,go_sem,zc11 kW] <;> rfl) rfl ?_;rw [HE.out];exact ⟨.zero,rfl,SwO.zero,bW⟩
    ·have HE:Hid (Q = (.zero,zd)):=by show _ = _;rw [← HQ.out];unfold newW;rw [if_neg HM.out,HT.out,if_neg (by simp),HD.out,if_pos (by simpa using d0)]
     have yb:(zd != 0) = true:=by simpa using d0
     clear d0;have ztR:=kR.lt;obtain ⟨t0,t1,t2,t3,t4,t5,t6,t7,t8,t9,t10⟩:=zc11 kR;obtain ⟨tf0,tf1,tf2,tf3,tf4,tf5,tf6,tf7,tf8,tf9,tf10,-⟩:=zf kR;go_wp2_with fail;obtain ⟨W,hW⟩:∃ W,setN V2 (w.heap.size) 0 zkz = W:=⟨_,rfl⟩;have hWn:=zs11 hW;have kW:=zsw hW kR;have bW:=zbw hW B4 (by omega);rw [hWn];clear hWn hW t0 tf0 t1 tf1 t2 tf2 t3 tf3 t4 tf4 t5 tf5 t6 tf6 t7 tf7 t8 tf8 t9 tf9 t10 tf10;refine bodyPost_ret (by simp [results,Tryz.results22,go_sem,zc11 kW] <;> rfl) rfl ?_;rw [HE.out];exact ⟨.zero,rfl,SwO.zero,bW⟩
   ·have HE:Hid (Q = (.zero,zt)):=by show _ = _;rw [← HQ.out];unfold newW;rw [if_neg HM.out,HT.out,if_pos (by simpa using t0)]
    have yb:(zt != 0) = true:=by simpa using t0
    clear t0;have ztR:=kR.lt;obtain ⟨t0,t1,t2,t3,t4,t5,t6,t7,t8,t9,t10⟩:=zc11 kR;obtain ⟨tf0,tf1,tf2,tf3,tf4,tf5,tf6,tf7,tf8,tf9,tf10,-⟩:=zf kR;go_wp2_with fail;obtain ⟨W,hW⟩:∃ W,setN V1 (w.heap.size) 0 zkz = W:=⟨_,rfl⟩;have hWn:=zs11 hW;have kW:=zsw hW kR;have bW:=zbw hW B2 (by omega);rw [hWn];clear hWn hW t0 tf0 t1 tf1 t2 tf2 t3 tf3 t4 tf4 t5 tf5 t6 tf6 t7 tf7 t8 tf8 t9 tf9 t10 tf10;refine bodyPost_ret (by simp [results,Tryz.results22,go_sem,zc11 kW] <;> rfl) rfl ?_;rw [HE.out];exact ⟨.zero,rfl,SwO.zero,bW⟩
theorem Few.of_ok {s:Swp} (h:OkS s) (hr:s.sl.refs.length ≤ 40):Few s:=by
 have h1:=h.sl.blen;have h2:=h.wr.1;have h3:=jobs_len h;have h4:=h.dk.few;have h5:=h.dk.room;have h6:=h.dlen;have h7:=h.len;have h8:=h.po.len;exact ⟨hr,by omega,by omega,by omega,by omega,by omega,by omega,by omega⟩
theorem SwA.of {w:World} {L:Lay} {s:Swp} (h:SwR w L s) (hok:OkS s) (hr:s.sl.refs.length ≤ 40):SwA w L s:=by
 refine ⟨h,Few.of_ok hok hr,fun v hv => ?_⟩
 by_cases e:v.2.2 = 0
 ·rw [e];exact wf_i (by omega)
 ·have hm:(v.2.2,v.1) ∈ wtW s:=by
   rw [wtW_eq];exact List.mem_append_right _ (wtL_mem.2 ⟨v,hv,rfl,rfl,e⟩)
  have:=hok.wtr _ hm;exact wf_i (by dsimp only at this;omega)
def xC:Ct:=⟨1,2,3,4,5,6,7,9223372036854775808⟩
theorem x_any (w:World):Calls Tryz.prog 36 #[] w fun e w' => e = .returned (ctV xC)∧Below w.heap.size w w':=by
 go_enter Tryz.func36,Tryz.ntmps36
 go_wp2_with fail;obtain ⟨W,hW⟩:∃ V,w.alloc (.cells (zkk 1 2 3 4 5 6 7 9223372036854775808).toArray 38) = V:=⟨_,rfl⟩;have kW:=za hW;have bW:Below w.heap.size w W:=by rw [← hW];exact zbl
 rw [hW];clear hW;refine bodyPost_ret (by simp [results,Tryz.results36,go_sem,zc8 kW] <;> rfl) rfl ?_;exact ⟨rfl,bW⟩
theorem eq_rd (w:World) (x y:Wr):(Op.equal 100 (.agg #[.int .i64 x.1,.int .i64 x.2.1,.int .i64 x.2.2]) (.agg #[.int .i64 y.1,.int .i64 y.2.1,.int .i64 y.2.2])).run Tryz.prog w = .ok (decide (x = y)) w:=by
 have hs:Tryz.prog.stoodInHeld 100 = false:=by kernel_rfl
 obtain ⟨a,b,c⟩:=x;obtain ⟨d,e,f⟩:=y;have h0:=part_int w #[.int .i64 a,.int .i64 b,.int .i64 c] 0 (.int .i64 a) rfl;have h1:=part_int w #[.int .i64 a,.int .i64 b,.int .i64 c] 1 (.int .i64 b) rfl;have h2:=part_int w #[.int .i64 a,.int .i64 b,.int .i64 c] 2 (.int .i64 c) rfl;have h3:=part_int w #[.int .i64 d,.int .i64 e,.int .i64 f] 0 (.int .i64 d) rfl;have h4:=part_int w #[.int .i64 d,.int .i64 e,.int .i64 f] 1 (.int .i64 e) rfl;have h5:=part_int w #[.int .i64 d,.int .i64 e,.int .i64 f] 2 (.int .i64 f) rfl;have e1:=eqIn_int w 9998 a d;have e2:=eqIn_int w 9998 b e;have e3:=eqIn_int w 9998 c f;unfold Op.equal;show (Op.equalIn (9999 + 1) _ _ _).run _ _ = _;unfold Op.equalIn;simp only [Sem.run_bind,run_underlying Tryz.underlying100,Result.andThen_ok];simp [hs,h0,h1,h2,h3,h4,h5,e1,e2,e3]
 by_cases h:a = d <;> by_cases h':b = e <;> by_cases h'':c = f <;> simp [h,h',h'']
theorem eqIn_ct (w:World) (a b:Ct):(Op.equalIn 9999 38 (ctV a) (ctV b)).run Tryz.prog w = .ok (decide (a = b)) w:=by
 obtain ⟨i,hi⟩:∃ i,Tryz.prog.info? 36 = some i:=Option.isSome_iff_exists.1 (by kernel_rfl);have hc:Tryz.prog.cellsOf 36 = 1:=by kernel_rfl
 have h:=eqItems_u64 w 9997 (ctL a) (ctL b) [] [] rfl rfl;have e:decide (ctL a = ctL b) = decide (a = b):=by rw [decide_eq_decide];exact ctL_inj
 rw [e] at h;show (Op.equalIn (9998 + 1) _ (.agg _) (.agg _)).run _ _ = _;rw [run_equalIn_array w 9998 _ _ Tryz.underlying38 hi,hc];exact h
def kn0:Swp:=(newW 2 3 1).1
def kn1:Swp:=(wrtW kn0 5 2 xC).1
def kn2:Swp:=(claW kn1 0 3).1
def kn3:Swp:=(cmpW kn2 0).1
def kd3:Dn:=⟨⟨true,0,5,xC⟩,3⟩
theorem kn_new:newW 2 3 1 = (kn0,0):=by decide +kernel
theorem kn_w1:wrtW kn0 5 2 xC = (kn1,0,0):=by decide +kernel
theorem kn_h1:hinE kn1 = ([2],0):=by decide +kernel
theorem kn_c2:claW kn1 0 3 = (kn2,0):=by decide +kernel
theorem kn_c3:cmpW kn2 0 = (kn3,kd3,0):=by decide +kernel
theorem kn_ok0:OkS kn0:=chkW_ok.1 (by decide +kernel)
theorem kn_ok1:OkS kn1:=chkW_ok.1 (by decide +kernel)
theorem kn_ok2:OkS kn2:=chkW_ok.1 (by decide +kernel)
theorem kn_ok3:OkS kn3:=chkW_ok.1 (by decide +kernel)
theorem kn_l0:kn0.sl.refs.length ≤ 40:=by decide +kernel
theorem kn_l1:kn1.sl.refs.length ≤ 40:=by decide +kernel
theorem kn_l2:kn2.sl.refs.length ≤ 40:=by decide +kernel
theorem kn_l3:kn3.sl.refs.length ≤ 40:=by decide +kernel
theorem kn_refs3:kn3.sl.refs = [1,0]:=by decide +kernel
theorem kn_chk3:chkW kn3 = 0:=by decide +kernel
def SwF (S:Swp) (z:List Value) (v:Value) (lo _hi:Nat) (w:World):Prop:=∃ L,v = .tuple (swV L S :: z).toArray∧SwO w lo L S
theorem SwF.lasts (S:Swp) (z:List Value):(Fk.has (SwF S z)).lasts:=fun _ _ _ _ _ ⟨L,e,h⟩ hb => ⟨L,e,h.ext hb⟩
theorem SwO.farT {w:World} {base b:Nat} {L:Lay} {s:Swp} {cs:Array Value} (h:SwO w base L s) (hb:Blk w b 35 cs) (vs:List Value):SwO (setN w b 0 vs) base L s:=
 ⟨h.o0.farBN vs hb (by decide),h.o1.farBN vs hb (by decide),h.o2.lift fun o => o.farBN vs hb (by decide),h.o3.farBN vs hb (by decide),h.o4.farBN vs hb (by decide),h.o5.farBN vs hb (by decide),h.o6.farBN vs hb (by decide),h.o7.farBN vs hb (by decide),h.p0,h.p7⟩
theorem SameInts_any (A B:Option Addr) (c d:Nat) (xs ys:List Int) (w:World) (ha:Sl w (.int .i64) A xs) (hb:Sl w (.int .i64) B ys) (la:xs.length ≤ 100000) (lb:ys.length ≤ 100000) :
  Calls Tryz.prog 20 #[.slice A xs.length c,.slice B ys.length d] w fun e w' => e = .returned (.bool (decide (xs = ys)))∧Below w.heap.size w w':=by
 have HA:=Lib.hid ha;have HB:=Lib.hid hb
 clear ha hb
 by_cases hl:xs.length = ys.length
 ·have hl':((xs.length:Int) != ys.length) = false:=by simp [hl]
  have HL:=Lib.hid hl
  have h1:xs.length ≤ ys.length:=by omega
  have h2:ys.length ≤ xs.length:=by omega
  clear hl
  go_enter Tryz.func20,Tryz.ntmps20
  go_wp2
  go_loopw [5] (fun i wr => ∃ k:Nat,k ≤ xs.length∧i = .int .i64 k∧Hid (∀ m:Nat,m < k→xs[m]? = ys[m]?)∧Below w.heap.size w wr) (fun i _ => xs.length - (intOf i).toNat)
  case atStart => exact ⟨0,by omega,rfl,fun m hm => absurd hm (by omega),Below.refl _ _⟩
  case round =>
   obtain ⟨k,hk,rfl,HK,hbw⟩:=hrel
   by_cases hlt:k < xs.length
   ·obtain ⟨b,off,x,rfl,hbl,hx,hc⟩:=(HA.out.ext hbw).at_ hlt
    obtain ⟨b',off',y,rfl,hbl',hy,hc'⟩:=(HB.out.ext hbw).at_ (show k < ys.length by omega)
    have hlt':k < ys.length:=by omega
    have i1:(k:Int) < xs.length:=by omega
    have i2:(k:Int) < ys.length:=by omega
    have HX:=Lib.hid hx;have HY:=Lib.hid hy
    clear hx hy
    by_cases e:x = y
    ·subst e
     go_wp2
     go_quiet (fail)
     go_wp2
     go_roundw
     case rel =>
      refine ⟨k + 1,by omega,by go_num,fun m hm => ?_,zbl⟩
      rcases (by omega:m < k ∨ m = k) with h | rfl
      ·exact HK.out m h
      ·exact HX.out.trans HY.out.symm
     case measure => simp [intOf];omega
    ·have he:(x != y) = true:=by simpa using e
     have HD:Hid (decide (xs = ys) = false):=by
      show _ = _
      refine decide_eq_false (fun h => e ?_)
      subst h
      have:=HX.out.symm.trans HY.out
      injection this
     clear e
     go_wp2
     go_quiet (fail)
     go_wp2
     go_ret
     exact ⟨ret_bool HD.out.symm,zbl⟩
   ·have HD:Hid (decide (xs = ys) = true):=by
     show _ = _
     refine decide_eq_true (List.ext_getElem? fun m => ?_)
     rcases (by omega:m < k ∨ k ≤ m) with h | h
     ·exact HK.out m h
     ·rw [List.getElem?_eq_none (by omega),List.getElem?_eq_none (by omega)]
    go_wp2
    go_ret
    exact ⟨ret_bool HD.out.symm,zbl⟩
 ·have hl':((xs.length:Int) != ys.length) = true:=by simp;omega
  have HD:Hid (decide (xs = ys) = false):=by
   show _ = _
   exact decide_eq_false (fun h => hl (by rw [h]))
  clear hl
  go_enter Tryz.func20,Tryz.ntmps20
  go_wp2
  go_ret
  exact ⟨ret_bool HD.out.symm,zbl⟩
theorem SameBools_any (A B:Option Addr) (c d:Nat) (xs ys:List Bool) (w:World) (ha:Sl w .bool A xs) (hb:Sl w .bool B ys) (la:xs.length ≤ 100000) (lb:ys.length ≤ 100000) :
  Calls Tryz.prog 135 #[.slice A xs.length c,.slice B ys.length d] w fun e w' => e = .returned (.bool (decide (xs = ys)))∧Below w.heap.size w w':=by
 have HA:=Lib.hid ha;have HB:=Lib.hid hb
 clear ha hb
 by_cases hl:xs.length = ys.length
 ·have hl':((xs.length:Int) != ys.length) = false:=by simp [hl]
  have HL:=Lib.hid hl
  have h1:xs.length ≤ ys.length:=by omega
  have h2:ys.length ≤ xs.length:=by omega
  clear hl
  go_enter Tryz.func135,Tryz.ntmps135
  go_wp2
  go_loopw [5] (fun i wr => ∃ k:Nat,k ≤ xs.length∧i = .int .i64 k∧Hid (∀ m:Nat,m < k→xs[m]? = ys[m]?)∧Below w.heap.size w wr) (fun i _ => xs.length - (intOf i).toNat)
  case atStart => exact ⟨0,by omega,rfl,fun m hm => absurd hm (by omega),Below.refl _ _⟩
  case round =>
   obtain ⟨k,hk,rfl,HK,hbw⟩:=hrel
   by_cases hlt:k < xs.length
   ·obtain ⟨b,off,x,rfl,hbl,hx,hc⟩:=(HA.out.ext hbw).at_ hlt
    obtain ⟨b',off',y,rfl,hbl',hy,hc'⟩:=(HB.out.ext hbw).at_ (show k < ys.length by omega)
    have hlt':k < ys.length:=by omega
    have i1:(k:Int) < xs.length:=by omega
    have i2:(k:Int) < ys.length:=by omega
    have HX:=Lib.hid hx;have HY:=Lib.hid hy
    clear hx hy
    by_cases e:x = y
    ·subst e
     cases x
     all_goals
      go_wp2
      go_quiet (fail)
      go_wp2
      go_roundw
      case rel =>
       refine ⟨k + 1,by omega,by go_num,fun m hm => ?_,zbl⟩
       rcases (by omega:m < k ∨ m = k) with h | rfl
       ·exact HK.out m h
       ·exact HX.out.trans HY.out.symm
      case measure => simp [intOf];omega
    ·have he:(x != y) = true:=by simpa using e
     have HD:Hid (decide (xs = ys) = false):=by
      show _ = _
      refine decide_eq_false (fun h => e ?_)
      subst h
      have:=HX.out.symm.trans HY.out
      injection this
     cases x <;> cases y <;> first
      | exact absurd rfl e
      | (clear e
         go_wp2
         go_quiet (fail)
         go_wp2
         go_ret
         exact ⟨ret_bool HD.out.symm,zbl⟩)
   ·have HD:Hid (decide (xs = ys) = true):=by
     show _ = _
     refine decide_eq_true (List.ext_getElem? fun m => ?_)
     rcases (by omega:m < k ∨ k ≤ m) with h | h
     ·exact HK.out m h
     ·rw [List.getElem?_eq_none (by omega),List.getElem?_eq_none (by omega)]
    go_wp2
    go_ret
    exact ⟨ret_bool HD.out.symm,zbl⟩
 ·have hl':((xs.length:Int) != ys.length) = true:=by simp;omega
  have HD:Hid (decide (xs = ys) = false):=by
   show _ = _
   exact decide_eq_false (fun h => hl (by rw [h]))
  clear hl
  go_enter Tryz.func135,Tryz.ntmps135
  go_wp2
  go_ret
  exact ⟨ret_bool HD.out.symm,zbl⟩
section
variable {P : Program} {ops : Array Oper} {Q : Exit → Act → World → Prop} {W0 : World} {o : Oper} {os : List Oper} {fs : List Fct} {vs vs' : List Value} {gs gs' : List Fct} {a a' : Act}
theorem zoT {u:Value} (h:∀ w,Below W0.heap.size W0 w→(∀ (j:Nat) (v:Value) (g:Fct),depB o j = true→vs[j]? = some v→gs[j]? = some g→g.at_ v w)→(execOp a.eval o).run P w = .ok (.value u) w) (h2:Chain P ops W0 Q os fs vs' gs' a') (hw:Region.wanted o (yielded ops a.tmps) = true:=by rfl)
    (hv:vs ++ [u] = vs':=by (first | (simp only [Act.put,List.setIfInBounds_toArray,List.set_cons_zero,List.set_cons_succ,List.nil_append,List.cons_append];done) | (simp only [Act.put,List.setIfInBounds_toArray,List.set_cons_zero,List.set_cons_succ,List.nil_append,List.cons_append];rfl) | rfl)) (hg:gs ++ [.is u] = gs':=by (first | (simp only [Act.put,List.setIfInBounds_toArray,List.set_cons_zero,List.set_cons_succ,List.nil_append,List.cons_append];done) | (simp only [Act.put,List.setIfInBounds_toArray,List.set_cons_zero,List.set_cons_succ,List.nil_append,List.cons_append];rfl) | rfl)) (ha:a.put o.dst u = a':=by (first | (simp only [Act.put,List.setIfInBounds_toArray,List.set_cons_zero,List.set_cons_succ,List.nil_append,List.cons_append];done) | (simp only [Act.put,List.setIfInBounds_toArray,List.set_cons_zero,List.set_cons_succ,List.nil_append,List.cons_append];rfl) | rfl)):Chain P ops W0 Q (o :: os) (.is u :: fs) vs gs a:=chain_is (step_take hw h) (by rw [hv,hg,ha];exact h2)
theorem zot {u:Value} (h2:Chain P ops W0 Q os fs vs' gs' a') (hw:Region.wanted o (yielded ops a.tmps) = true:=by rfl) (h:∀ w,Below W0.heap.size W0 w→(∀ (j:Nat) (v:Value) (g:Fct),depB o j = true→vs[j]? = some v→gs[j]? = some g→g.at_ v w)→(execOp a.eval o).run P w = .ok (.value u) w:=by intro w hbw hd;clear hd;go_simp;first | done | with_reducible rfl)
    (hv:vs ++ [u] = vs':=by (first | (simp only [Act.put,List.setIfInBounds_toArray,List.set_cons_zero,List.set_cons_succ,List.nil_append,List.cons_append];done) | (simp only [Act.put,List.setIfInBounds_toArray,List.set_cons_zero,List.set_cons_succ,List.nil_append,List.cons_append];rfl) | rfl)) (hg:gs ++ [.is u] = gs':=by (first | (simp only [Act.put,List.setIfInBounds_toArray,List.set_cons_zero,List.set_cons_succ,List.nil_append,List.cons_append];done) | (simp only [Act.put,List.setIfInBounds_toArray,List.set_cons_zero,List.set_cons_succ,List.nil_append,List.cons_append];rfl) | rfl)) (ha:a.put o.dst u = a':=by (first | (simp only [Act.put,List.setIfInBounds_toArray,List.set_cons_zero,List.set_cons_succ,List.nil_append,List.cons_append];done) | (simp only [Act.put,List.setIfInBounds_toArray,List.set_cons_zero,List.set_cons_succ,List.nil_append,List.cons_append];rfl) | rfl)):Chain P ops W0 Q (o :: os) (.is u :: fs) vs gs a:=zoT h h2 hw hv hg ha
theorem zou (h2:Chain P ops W0 Q os fs vs' gs' a') (hw:Region.wanted o (yielded ops a.tmps) = false:=by rfl)
    (hv:vs ++ [undef] = vs':=by (first | (simp only [Act.put,List.setIfInBounds_toArray,List.set_cons_zero,List.set_cons_succ,List.nil_append,List.cons_append];done) | (simp only [Act.put,List.setIfInBounds_toArray,List.set_cons_zero,List.set_cons_succ,List.nil_append,List.cons_append];rfl) | rfl)) (hg:gs ++ [.is undef] = gs':=by (first | (simp only [Act.put,List.setIfInBounds_toArray,List.set_cons_zero,List.set_cons_succ,List.nil_append,List.cons_append];done) | (simp only [Act.put,List.setIfInBounds_toArray,List.set_cons_zero,List.set_cons_succ,List.nil_append,List.cons_append];rfl) | rfl)) (ha:a.put o.dst undef = a':=by (first | (simp only [Act.put,List.setIfInBounds_toArray,List.set_cons_zero,List.set_cons_succ,List.nil_append,List.cons_append];done) | (simp only [Act.put,List.setIfInBounds_toArray,List.set_cons_zero,List.set_cons_succ,List.nil_append,List.cons_append];rfl) | rfl)):Chain P ops W0 Q (o :: os) (.is undef :: fs) vs gs a:=chain_is (step_un hw) (by rw [hv,hg,ha];exact h2)
end
end Go.Proofs.YthijbipidbjpfaaGreatDoor
