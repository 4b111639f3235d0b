import Derived.Test.YthijbipidbjpfaaGreatDoorZP22
import Derived.Test.YthijbipidbjpfaaGreatDoorZP27
import Derived.Test.YthijbipidbjpfaaGreatDoorZP29
import Derived.Test.YthijbipidbjpfaaGreatDoorZP21
import Derived.Test.YthijbipidbjpfaaGreatDoorZP24
import Derived.Test.YthijbipidbjpfaaGreatDoorZP00
import Derived.Test.YthijbipidbjpfaaGreatDoorZP03
import Derived.Test.YthijbipidbjpfaaGreatDoorZP14
import Derived.ProofKit
import Derived.OpenShut
import Derived.Lib.SmallJoins
import Derived.Test.YthijbipidbjpfaaGreatDoorTie
import Derived.Test.YthijbipidbjpfaaGreatDoorCards
import Derived.Test.YthijbipidbjpfaaGreatDoorZP07
import Derived.LaidMore
import Derived.Stop.Joined
import Derived.ChangeSame
import Derived.Deep.Slices
import Derived.Deep.SlicePairs
import Derived.Test.YthijbipidbjpfaaGreatDoorZP16
import Derived.Deep.Strs
set_option linter.unusedSimpArgs false
set_option linter.unusedVariables false
set_option maxRecDepth 100000
set_option maxHeartbeats 8000000
namespace Go.Proofs.YthijbipidbjpfaaGreatDoor
open Go.RowKit Go.Maps
theorem few_zero:Few .zero:=⟨by decide,by decide,by decide,by decide,by decide,by decide,by decide,by decide⟩
theorem cmpW_few{s:Swp}(h:Few s)(i:Int):Few (cmpW s i).1:=by
 by_cases h1:chkW s≠0
 ·unfold cmpW;rw[if_pos h1];exact few_zero
 by_cases h2:i<0∨(s.dk.jobs.length:Int)≤i
 ·unfold cmpW;rw[if_neg h1,if_pos h2];exact few_zero
 obtain⟨j,hj⟩:∃ j,s.dk.jobs[i.toNat]? = some j:=⟨_,List.getElem?_eq_getElem (by omega)⟩;obtain⟨e,hok⟩:=cmp_ok (chkW_ok.1 (by simpa using h1)) (n:=i) (by omega) hj;rw[e];exact Few.of_ok hok (by have:=h.f0;simpa [dnS,witT] using this)
theorem addW_few{s:Swp}(h:Few s)(n:Int):Few (addW s n).1:=by
 unfold addW
 split
 ·exact few_zero
 split
 ·exact few_zero
 ·rename_i h1 h2
  have hok:OkS s:=chkW_ok.1 (by simpa using h1);obtain⟨_,_,_,e⟩:=addT_zero hok.sl (n:=n) (by simpa using h2);obtain⟨f0,f1,f2,f3,f4,f5,f6,f7⟩:=h;exact⟨by dsimp only;rw[e];simpa [witT] using f0,by dsimp only;rw[e];simpa [witT] using f1,f2,f3,f4,f5,f6,f7⟩
theorem unrW_few{s:Swp}(h:Few s)(n:Int):Few (unrW s n).1:=by
 unfold unrW
 split
 ·exact few_zero
 split
 ·exact few_zero
 split
 ·exact few_zero
 ·rename_i h1 h2 _
  have hok:OkS s:=chkW_ok.1 (by simpa using h1);obtain⟨_,_,e⟩:=unrT_zero hok.sl (n:=n) (by simpa using h2);obtain⟨f0,f1,f2,f3,f4,f5,f6,f7⟩:=h;exact⟨by dsimp only;rw[e];simpa [witT] using f0,by dsimp only;rw[e];simpa [witT] using f1,f2,f3,f4,f5,f6,f7⟩
theorem swapCompletes_walk(L:Lay)(s:Swp)(i n:Int)(w:World)(h:SwR w L s)(hwf:∀ v ∈ s.rd,(Lit.int .i64 v.2.2).wf=true)(hcap:s.desc.length≤L.c4)(_h1:(Lit.int .i64 i).wf=true)(_h2:(Lit.int .i64 n).wf=true)(hz:TZ w) :
  Calls Tryz.prog 5 #[swV L s,.int .i64 i,.int .i64 n] w fun e w'=>e=.returned (.bool true)∧Below w.heap.size w w':=by
 obtain⟨a0,c0,a1,c1,a2,c2,a3,c3,a4,c4,a5,c5,a6,c6,a7,c7⟩:=L;have HS:=Lib.hid h;have HTZ:=Lib.hid hz;have HWF:=Lib.hid hwf;have HW0:0<w.heap.size:=hz.pos;dsimp only at hcap;clear h hz hwf _h1 _h2;obtain⟨lg,hlg⟩:∃ b,larW s=b:=⟨_,rfl⟩
 have hLA:=fun W=>large_any ⟨a0,c0,a1,c1,a2,c2,a3,c3,a4,c4,a5,c5,a6,c6,a7,c7⟩ s W
 rw[hlg] at hLA;have HLA:=Lib.hid hLA;clear hLA;unfold swV swC at HLA;unfold swV swC;obtain⟨X,hX⟩:∃ X,w.alloc (.cells (zkx s a0 c0 a1 c1 a2 c2 a3 c3 a4 c4 a5 c5 a6 c6 a7 c7).toArray 35)=X:=⟨_,rfl⟩;have kS:=za hX;have BX:Below w.heap.size w X:=by rw[←hX];exact zbl
 have zkS_:=kS.lt;obtain⟨q0,q1,q2,q3,q4,q5,q6,q7,q8,q9,q10⟩:=zc11 kS
 go_enter Tryz.func5,Tryz.ntmps5
 go_wp2_with fail;(try rw[hX]);clear hX;refine (HLA.out X).mono ?_;rintro e1 w1 ⟨rfl,hb1⟩;have B1:=zbt BX hb1;replace kS:=kS.below_ hb1 kS.lt;clear zkS_ q0 q1 q2 q3 q4 q5 q6 q7 q8 q9 q10
 cases lg with
 | true=>
  go_wp2_with fail;refine (awake_any w1 (HTZ.out.ext HW0 B1)).mono ?_;rintro e2 w2 ⟨rfl,hb2⟩;go_wp2_with fail;go_ret;exact⟨rfl,B1.trans (hb2.mono B1.size)⟩
 | false=>
  have HF:Hid (Few s):=larW_few hlg;clear hlg hb1;have HOWN:=Lib.hid (kOwnSwap_any ⟨a0,c0,a1,c1,a2,c2,a3,c3,a4,c4,a5,c5,a6,c6,a7,c7⟩ s w1 (HS.out.ext B1) HF.out);have zkS_:=kS.lt;obtain⟨q0,q1,q2,q3,q4,q5,q6,q7,q8,q9,q10⟩:=zc11 kS;go_wp2_with fail;refine HOWN.out.mono ?_;rintro e2 w2 ⟨⟨i0,j0,i1,j1,i2,j2,i3,j3,i4,j4,i5,j5,i6,j6,i7,j7⟩,rfl,hI,hb2⟩;have B2:=zbt B1 hb2;replace kS:=kS.below_ hb2 kS.lt;clear zkS_ q0 q1 q2 q3 q4 q5 q6 q7 q8 q9 q10;unfold swV swC;dsimp only;go_upto_region 4 with fail;obtain⟨V2,hV⟩:∃ V,w2.alloc (.cells (zkx s i0 j0 i1 j1 i2 j2 i3 j3 i4 j4 i5 j5 i6 j6 i7 j7).toArray 35)=V:=⟨_,rfl⟩;obtain⟨BI,hBe⟩:∃ B,w2.heap.size=B:=⟨_,rfl⟩;have kI:Blk V2 BI 35 (zkx s i0 j0 i1 j1 i2 j2 i3 j3 i4 j4 i5 j5 i6 j6 i7 j7).toArray:=by rw[←hV,←hBe];exact Blk.new_ rfl rfl
  have hbV:=zab hV;replace kS:=kS.below_ hbV kS.lt;have bw:=B2.trans (hbV.mono B2.size);have bv:Below V2.heap.size V2 V2:=Below.refl _ _;have HI2:Hid (SwR V2 ⟨i0,j0,i1,j1,i2,j2,i3,j3,i4,j4,i5,j5,i6,j6,i7,j7⟩ s):=hI.ext hbV;have lS:w.heap.size<V2.heap.size:=kS.lt;have lI:BI<V2.heap.size:=kI.lt;rw[hV,hBe];clear hV hBe hI hb2 hbV HOWN B1 B2 BX;obtain⟨⟨S1,⟨⟨jw,js,jf,⟨e0,e1,e2,e3,e4,e5,e6,e7⟩⟩,pr⟩,er⟩,hS⟩:∃ q,cmpW s i=q:=⟨_,rfl⟩;have HF1:Hid (Few S1):=by have:=cmpW_few HF.out i;rw[hS] at this;exact this
  have hW1:=Complete_any ⟨i0,j0,i1,j1,i2,j2,i3,j3,i4,j4,i5,j5,i6,j6,i7,j7⟩ s i V2 ⟨HI2.out.ext bv,HF.out,HWF.out⟩ (HTZ.out.ext HW0 bw);rw[hS] at hW1;have HW1:=Lib.hid hW1
  have hW2:=fun W hw=>rwComplete_any ⟨a0,c0,a1,c1,a2,c2,a3,c3,a4,c4,a5,c5,a6,c6,a7,c7⟩ s i W hw HF.out hcap
  rw[hS] at hW2;have HW2:=Lib.hid hW2;clear hW1 hW2 hS;unfold swV swC at HW1 HW2;have zkI_:=kI.lt;obtain⟨q0,q1,q2,q3,q4,q5,q6,q7,q8,q9,q10⟩:=zc11 kI;go_wp2_with fail;refine HW1.out.mono ?_;rintro e3_ w3 ⟨⟨m10,n10,m11,n11,m12,n12,m13,n13,m14,n14,m15,n15,m16,n16,m17,n17⟩,rfl,oa,hb3⟩;clear zkI_ q0 q1 q2 q3 q4 q5 q6 q7 q8 q9 q10;replace bw:=bw.trans (hb3.mono bw.size);replace bv:=bv.trans (hb3.mono bv.size);replace kS:=kS.below_ hb3 kS.lt;replace kI:=kI.below_ hb3 kI.lt;clear hb3 HW1;dsimp only;unfold swV swC;dsimp only;rw[show dnV ⟨⟨jw,js,jf,⟨e0,e1,e2,e3,e4,e5,e6,e7⟩⟩,pr⟩=.agg (zkn jw js jf pr e0 e1 e2 e3 e4 e5 e6 e7).toArray from rfl];go_upto_region 5 with fail;have HA:Hid (SwO w3 0 ⟨m10,n10,m11,n11,m12,n12,m13,n13,m14,n14,m15,n15,m16,n16,m17,n17⟩ S1):=oa.base_ (Nat.zero_le _);clear oa;have hsz:V2.heap.size≤w3.heap.size:=bv.size;obtain⟨U3,hV⟩:∃ V,(w3.alloc (.cells (zkx S1 m10 n10 m11 n11 m12 n12 m13 n13 m14 n14 m15 n15 m16 n16 m17 n17).toArray 35)).alloc (.cells (zkn jw js jf pr e0 e1 e2 e3 e4 e5 e6 e7).toArray 55)=V:=⟨_,rfl⟩;obtain⟨BA,hBe⟩:∃ B,w3.heap.size=B:=⟨_,rfl⟩;have kA:Blk U3 BA 35 (zkx S1 m10 n10 m11 n11 m12 n12 m13 n13 m14 n14 m15 n15 m16 n16 m17 n17).toArray:=by rw[←hV,←hBe];exact(Blk.new_ rfl rfl).alloc_ _
  have kC:Blk U3 (BA+1) 55 (zkn jw js jf pr e0 e1 e2 e3 e4 e5 e6 e7).toArray:=by rw[←hV,←hBe];exact Blk.new_ (by simp) rfl
  have hbV:Below w3.heap.size w3 U3:=by rw[←hV];exact zbl
  replace bw:=bw.trans (hbV.mono bw.size);replace bv:=bv.trans (hbV.mono bv.size);replace kS:=kS.below_ hbV kS.lt;replace kI:=kI.below_ hbV kI.lt;replace HA:=Lib.hid (HA.out.ext hbV);have lBA:V2.heap.size≤BA:=by rw[←hBe];exact hsz
  rw[hV,hBe];clear hV hBe hbV hsz;have HW3:=Lib.hid (HW2.out U3 (HS.out.ext bw));have zkS_:=kS.lt;obtain⟨q0,q1,q2,q3,q4,q5,q6,q7,q8,q9,q10⟩:=zc11 kS;go_wp2_with fail;refine HW3.out.mono ?_;rintro e4_ w4 ⟨⟨u10,v10,u11,v11,u12,v12,u13,v13,u14,v14,u15,v15,u16,v16,u17,v17⟩,rfl,ob,hb4⟩;clear zkS_ q0 q1 q2 q3 q4 q5 q6 q7 q8 q9 q10;replace bw:=bw.trans (hb4.mono bw.size);replace bv:=bv.trans (hb4.mono bv.size);replace kS:=kS.below_ hb4 kS.lt;replace kI:=kI.below_ hb4 kI.lt;replace kA:=kA.below_ hb4 kA.lt;replace kC:=kC.below_ hb4 kC.lt;replace HA:=Lib.hid (HA.out.ext hb4);clear hb4 HW2 HW3;dsimp only;unfold swV swC;dsimp only;rw[show dnV ⟨⟨jw,js,jf,⟨e0,e1,e2,e3,e4,e5,e6,e7⟩⟩,pr⟩=.agg (zkn jw js jf pr e0 e1 e2 e3 e4 e5 e6 e7).toArray from rfl];go_upto_region 6 with fail;have HB:Hid (SwO w4 0 ⟨u10,v10,u11,v11,u12,v12,u13,v13,u14,v14,u15,v15,u16,v16,u17,v17⟩ S1):=ob.base_ (Nat.zero_le _);clear ob;have hsz:V2.heap.size≤w4.heap.size:=bv.size;have kAz:=kA.lt;obtain⟨U4,hV⟩:∃ V,(w4.alloc (.cells (zkx S1 u10 v10 u11 v11 u12 v12 u13 v13 u14 v14 u15 v15 u16 v16 u17 v17).toArray 35)).alloc (.cells (zkn jw js jf pr e0 e1 e2 e3 e4 e5 e6 e7).toArray 55)=V:=⟨_,rfl⟩;obtain⟨BB,hBe⟩:∃ B,w4.heap.size=B:=⟨_,rfl⟩;have kB:Blk U4 BB 35 (zkx S1 u10 v10 u11 v11 u12 v12 u13 v13 u14 v14 u15 v15 u16 v16 u17 v17).toArray:=by rw[←hV,←hBe];exact(Blk.new_ rfl rfl).alloc_ _
  have kF:Blk U4 (BB+1) 55 (zkn jw js jf pr e0 e1 e2 e3 e4 e5 e6 e7).toArray:=by rw[←hV,←hBe];exact Blk.new_ (by simp) rfl
  have hbV:Below w4.heap.size w4 U4:=by rw[←hV];exact zbl
  replace bw:=bw.trans (hbV.mono bw.size);replace bv:=bv.trans (hbV.mono bv.size);replace kS:=kS.below_ hbV kS.lt;replace kI:=kI.below_ hbV kI.lt;replace kA:=kA.below_ hbV kA.lt;replace kC:=kC.below_ hbV kC.lt;replace HA:=Lib.hid (HA.out.ext hbV);replace HB:=Lib.hid (HB.out.ext hbV);have lBB:V2.heap.size≤BB:=by rw[←hBe];exact hsz
  have nBBkA:BA<BB:=by rw[←hBe];exact kAz
  rw[hV,hBe];clear hV hBe hbV hsz kAz;have HSW:=Lib.hid (sameSwap_refl ⟨m10,n10,m11,n11,m12,n12,m13,n13,m14,n14,m15,n15,m16,n16,m17,n17⟩ ⟨u10,v10,u11,v11,u12,v12,u13,v13,u14,v14,u15,v15,u16,v16,u17,v17⟩ S1 U4 HA.out.sw HB.out.sw HF1.out);unfold swV swC at HSW;have zkA_:=kA.lt;obtain⟨qa0,qa1,qa2,qa3,qa4,qa5,qa6,qa7,qa8,qa9,qa10⟩:=zc11 kA;have zkB_:=kB.lt;obtain⟨qb0,qb1,qb2,qb3,qb4,qb5,qb6,qb7,qb8,qb9,qb10⟩:=zc11 kB;go_wp2_with fail;refine HSW.out.mono ?_;rintro e5_ w5 ⟨rfl,hb5⟩;clear zkA_ qa0 qa1 qa2 qa3 qa4 qa5 qa6 qa7 qa8 qa9 qa10;clear zkB_ qb0 qb1 qb2 qb3 qb4 qb5 qb6 qb7 qb8 qb9 qb10;replace bw:=bw.trans (hb5.mono bw.size);replace bv:=bv.trans (hb5.mono bv.size);replace kS:=kS.below_ hb5 kS.lt;replace kI:=kI.below_ hb5 kI.lt;replace kA:=kA.below_ hb5 kA.lt;replace kB:=kB.below_ hb5 kB.lt;replace kC:=kC.below_ hb5 kC.lt;replace kF:=kF.below_ hb5 kF.lt;clear hb5 HSW HA HB;have zkC:=kC.lt;have zkF:=kF.lt;obtain⟨c_0,c_1,c_2,c_3,c_4,c_5,c_6,c_7,c_8,c_9,c_10,c_11⟩:=zc12 kC;obtain⟨f_0,f_1,f_2,f_3,f_4,f_5,f_6,f_7,f_8,f_9,f_10,f_11⟩:=zc12 kF;have hq1:(Op.equalIn 10000 55 (.agg (zkn jw js jf pr e0 e1 e2 e3 e4 e5 e6 e7).toArray) (.agg (zkn jw js jf pr e0 e1 e2 e3 e4 e5 e6 e7).toArray)).run Tryz.prog w5=.ok true w5:=(eq_dn w5 ⟨⟨jw,js,jf,⟨e0,e1,e2,e3,e4,e5,e6,e7⟩⟩,pr⟩ ⟨⟨jw,js,jf,⟨e0,e1,e2,e3,e4,e5,e6,e7⟩⟩,pr⟩).trans (by rw[decide_eq_true rfl]);have hq3:(Op.equalIn 9999 38 (.agg (zkk e0 e1 e2 e3 e4 e5 e6 e7).toArray) (.agg (zkk e0 e1 e2 e3 e4 e5 e6 e7).toArray)).run Tryz.prog w5=.ok true w5:=(eqIn_ct w5 ⟨e0,e1,e2,e3,e4,e5,e6,e7⟩ ⟨e0,e1,e2,e3,e4,e5,e6,e7⟩).trans (by rw[decide_eq_true rfl]);obtain⟨⟨S2,ec⟩,hS⟩:∃ q,addW s n=q:=⟨_,rfl⟩;have HF2:Hid (Few S2):=by have:=addW_few HF.out n;rw[hS] at this;exact this
  have hW1:=Ref_any ⟨i0,j0,i1,j1,i2,j2,i3,j3,i4,j4,i5,j5,i6,j6,i7,j7⟩ s n w5 ⟨HI2.out.ext bv,HF.out,HWF.out⟩ (HTZ.out.ext HW0 bw);rw[hS] at hW1;have HW1:=Lib.hid hW1
  have hW2:=fun W hw=>rwRef_any ⟨a0,c0,a1,c1,a2,c2,a3,c3,a4,c4,a5,c5,a6,c6,a7,c7⟩ s n W hw HF.out
  rw[hS] at hW2;have HW2:=Lib.hid hW2;clear hW1 hW2 hS;unfold swV swC at HW1 HW2;have zkI_:=kI.lt;obtain⟨q0,q1,q2,q3,q4,q5,q6,q7,q8,q9,q10⟩:=zc11 kI;go_wp2_with fail;refine HW1.out.mono ?_;rintro e6 w6 ⟨⟨m20,n20,m21,n21,m22,n22,m23,n23,m24,n24,m25,n25,m26,n26,m27,n27⟩,rfl,oa,hb6⟩;clear zkC zkF kC kF hq1 hq3 c_0 f_0 c_1 f_1 c_2 f_2 c_3 f_3 c_4 f_4 c_5 f_5 c_6 f_6 c_7 f_7 c_8 f_8 c_9 f_9 c_10 f_10 c_11 f_11;clear zkI_ q0 q1 q2 q3 q4 q5 q6 q7 q8 q9 q10;replace bw:=bw.trans (hb6.mono bw.size);replace bv:=bv.trans (hb6.mono bv.size);replace kS:=kS.below_ hb6 kS.lt;replace kI:=kI.below_ hb6 kI.lt;replace kA:=kA.below_ hb6 kA.lt;replace kB:=kB.below_ hb6 kB.lt;clear hb6 HW1;unfold swV swC;dsimp only;obtain⟨t0,t1,t2,t3,t4,t5,t6,t7,t8,t9,t10⟩:=zc11 kA;obtain⟨tf0,tf1,tf2,tf3,tf4,tf5,tf6,tf7,tf8,tf9,tf10,-⟩:=zf kA;have zt:=kA.lt;go_upto_region 9 with fail;obtain⟨U6,hU⟩:∃ U,setN w6 BA 0 (zkx S2 m20 n20 m21 n21 m22 n22 m23 n23 m24 n24 m25 n25 m26 n26 m27 n27)=U:=⟨_,rfl⟩;have hUn:=zs11 hU;have k_:=zsw hU kA;replace kS:=(show Blk U6 _ _ _ from by rw[←hU];exact kS.kept (grown_setN _ _ _ _) (by simp;omega));replace kI:=(show Blk U6 _ _ _ from by rw[←hU];exact kI.kept (grown_setN _ _ _ _) (by simp;omega));replace kB:=(show Blk U6 _ _ _ from by rw[←hU];exact kB.kept (grown_setN _ _ _ _) (by simp;omega));have HA:Hid (SwO U6 0 ⟨m20,n20,m21,n21,m22,n22,m23,n23,m24,n24,m25,n25,m26,n26,m27,n27⟩ S2):=by show SwO _ _ _ _;rw[←hU];exact SwO.farO (oa.base_ (Nat.zero_le _)) kA _
  replace bw:Below w.heap.size w U6:=by rw[←hU];exact below_setN bw (by omega) _
  replace bv:Below V2.heap.size V2 U6:=by rw[←hU];exact below_setN bv lBA _
  rw[hUn];clear hUn hU zt kA t0 tf0 t1 tf1 t2 tf2 t3 tf3 t4 tf4 t5 tf5 t6 tf6 t7 tf7 t8 tf8 t9 tf9 t10 tf10;have kA:=k_;clear k_;clear oa;have HW3:=Lib.hid (HW2.out U6 (HS.out.ext bw));have zkS_:=kS.lt;obtain⟨q0,q1,q2,q3,q4,q5,q6,q7,q8,q9,q10⟩:=zc11 kS;go_wp2_with fail;refine HW3.out.mono ?_;rintro e7 w7 ⟨⟨u20,v20,u21,v21,u22,v22,u23,v23,u24,v24,u25,v25,u26,v26,u27,v27⟩,rfl,ob,hb7⟩;clear zkS_ q0 q1 q2 q3 q4 q5 q6 q7 q8 q9 q10;replace bw:=bw.trans (hb7.mono bw.size);replace bv:=bv.trans (hb7.mono bv.size);replace kS:=kS.below_ hb7 kS.lt;replace kI:=kI.below_ hb7 kI.lt;replace kA:=kA.below_ hb7 kA.lt;replace kB:=kB.below_ hb7 kB.lt;replace HA:=Lib.hid (HA.out.ext hb7);clear hb7 HW2 HW3;unfold swV swC;dsimp only;obtain⟨t0,t1,t2,t3,t4,t5,t6,t7,t8,t9,t10⟩:=zc11 kB;obtain⟨tf0,tf1,tf2,tf3,tf4,tf5,tf6,tf7,tf8,tf9,tf10,-⟩:=zf kB;have zt:=kB.lt;go_upto_region 10 with fail;obtain⟨U7,hU⟩:∃ U,setN w7 BB 0 (zkx S2 u20 v20 u21 v21 u22 v22 u23 v23 u24 v24 u25 v25 u26 v26 u27 v27)=U:=⟨_,rfl⟩;have hUn:=zs11 hU;have k_:=zsw hU kB;replace kS:=(show Blk U7 _ _ _ from by rw[←hU];exact kS.kept (grown_setN _ _ _ _) (by simp;omega));replace kI:=(show Blk U7 _ _ _ from by rw[←hU];exact kI.kept (grown_setN _ _ _ _) (by simp;omega));replace kA:=(show Blk U7 _ _ _ from by rw[←hU];exact kA.kept (grown_setN _ _ _ _) (by simp;omega));have HB:Hid (SwO U7 0 ⟨u20,v20,u21,v21,u22,v22,u23,v23,u24,v24,u25,v25,u26,v26,u27,v27⟩ S2):=by show SwO _ _ _ _;rw[←hU];exact SwO.farO ob kB _
  replace HA:Hid (SwO U7 0 ⟨m20,n20,m21,n21,m22,n22,m23,n23,m24,n24,m25,n25,m26,n26,m27,n27⟩ S2):=by show SwO _ _ _ _;rw[←hU];exact SwO.farO HA.out kB _
  replace bw:Below w.heap.size w U7:=by rw[←hU];exact below_setN bw (by omega) _
  replace bv:Below V2.heap.size V2 U7:=by rw[←hU];exact below_setN bv lBB _
  rw[hUn];clear hUn hU zt kB t0 tf0 t1 tf1 t2 tf2 t3 tf3 t4 tf4 t5 tf5 t6 tf6 t7 tf7 t8 tf8 t9 tf9 t10 tf10;have kB:=k_;clear k_;clear ob;have HSW:=Lib.hid (sameSwap_refl ⟨m20,n20,m21,n21,m22,n22,m23,n23,m24,n24,m25,n25,m26,n26,m27,n27⟩ ⟨u20,v20,u21,v21,u22,v22,u23,v23,u24,v24,u25,v25,u26,v26,u27,v27⟩ S2 U7 HA.out.sw HB.out.sw HF2.out);unfold swV swC at HSW;have zkA_:=kA.lt;obtain⟨qa0,qa1,qa2,qa3,qa4,qa5,qa6,qa7,qa8,qa9,qa10⟩:=zc11 kA;have zkB_:=kB.lt;obtain⟨qb0,qb1,qb2,qb3,qb4,qb5,qb6,qb7,qb8,qb9,qb10⟩:=zc11 kB;go_wp2_with fail;refine HSW.out.mono ?_;rintro e8 w8 ⟨rfl,hb8⟩;clear zkA_ qa0 qa1 qa2 qa3 qa4 qa5 qa6 qa7 qa8 qa9 qa10;clear zkB_ qb0 qb1 qb2 qb3 qb4 qb5 qb6 qb7 qb8 qb9 qb10;replace bw:=bw.trans (hb8.mono bw.size);replace bv:=bv.trans (hb8.mono bv.size);replace kS:=kS.below_ hb8 kS.lt;replace kI:=kI.below_ hb8 kI.lt;replace kA:=kA.below_ hb8 kA.lt;replace kB:=kB.below_ hb8 kB.lt;clear hb8 HSW HA HB;obtain⟨⟨S3,ki,ek⟩,hS⟩:∃ q,unrW s n=q:=⟨_,rfl⟩;have HF3:Hid (Few S3):=by have:=unrW_few HF.out n;rw[hS] at this;exact this
  have hW1:=Unref_any ⟨i0,j0,i1,j1,i2,j2,i3,j3,i4,j4,i5,j5,i6,j6,i7,j7⟩ s n w8 ⟨HI2.out.ext bv,HF.out,HWF.out⟩ (HTZ.out.ext HW0 bw);rw[hS] at hW1;have HW1:=Lib.hid hW1
  have hW2:=fun W hw=>rwUnref_any ⟨a0,c0,a1,c1,a2,c2,a3,c3,a4,c4,a5,c5,a6,c6,a7,c7⟩ s n W hw HF.out
  rw[hS] at hW2;have HW2:=Lib.hid hW2;clear hW1 hW2 hS;unfold swV swC at HW1 HW2;have zkI_:=kI.lt;obtain⟨q0,q1,q2,q3,q4,q5,q6,q7,q8,q9,q10⟩:=zc11 kI;go_wp2_with fail;refine HW1.out.mono ?_;rintro e9 w9 ⟨⟨m30,n30,m31,n31,m32,n32,m33,n33,m34,n34,m35,n35,m36,n36,m37,n37⟩,rfl,oa,hb9⟩;clear zkI_ q0 q1 q2 q3 q4 q5 q6 q7 q8 q9 q10;replace bw:=bw.trans (hb9.mono bw.size);replace bv:=bv.trans (hb9.mono bv.size);replace kS:=kS.below_ hb9 kS.lt;replace kI:=kI.below_ hb9 kI.lt;replace kA:=kA.below_ hb9 kA.lt;replace kB:=kB.below_ hb9 kB.lt;clear hb9 HW1;unfold swV swC;dsimp only;obtain⟨t0,t1,t2,t3,t4,t5,t6,t7,t8,t9,t10⟩:=zc11 kA;obtain⟨tf0,tf1,tf2,tf3,tf4,tf5,tf6,tf7,tf8,tf9,tf10,-⟩:=zf kA;have zt:=kA.lt;go_upto_region 13 with fail;obtain⟨U9,hU⟩:∃ U,setN w9 BA 0 (zkx S3 m30 n30 m31 n31 m32 n32 m33 n33 m34 n34 m35 n35 m36 n36 m37 n37)=U:=⟨_,rfl⟩;have hUn:=zs11 hU;have k_:=zsw hU kA;replace kS:=(show Blk U9 _ _ _ from by rw[←hU];exact kS.kept (grown_setN _ _ _ _) (by simp;omega));replace kI:=(show Blk U9 _ _ _ from by rw[←hU];exact kI.kept (grown_setN _ _ _ _) (by simp;omega));replace kB:=(show Blk U9 _ _ _ from by rw[←hU];exact kB.kept (grown_setN _ _ _ _) (by simp;omega));have HA:Hid (SwO U9 0 ⟨m30,n30,m31,n31,m32,n32,m33,n33,m34,n34,m35,n35,m36,n36,m37,n37⟩ S3):=by show SwO _ _ _ _;rw[←hU];exact SwO.farO (oa.base_ (Nat.zero_le _)) kA _
  replace bw:Below w.heap.size w U9:=by rw[←hU];exact below_setN bw (by omega) _
  replace bv:Below V2.heap.size V2 U9:=by rw[←hU];exact below_setN bv lBA _
  rw[hUn];clear hUn hU zt kA t0 tf0 t1 tf1 t2 tf2 t3 tf3 t4 tf4 t5 tf5 t6 tf6 t7 tf7 t8 tf8 t9 tf9 t10 tf10;have kA:=k_;clear k_;clear oa;have HW3:=Lib.hid (HW2.out U9 (HS.out.ext bw));have zkS_:=kS.lt;obtain⟨q0,q1,q2,q3,q4,q5,q6,q7,q8,q9,q10⟩:=zc11 kS;go_wp2_with fail;refine HW3.out.mono ?_;rintro e10 w10 ⟨⟨u30,v30,u31,v31,u32,v32,u33,v33,u34,v34,u35,v35,u36,v36,u37,v37⟩,rfl,ob,hb10⟩;clear zkS_ q0 q1 q2 q3 q4 q5 q6 q7 q8 q9 q10;replace bw:=bw.trans (hb10.mono bw.size);replace bv:=bv.trans (hb10.mono bv.size);replace kS:=kS.below_ hb10 kS.lt;replace kI:=kI.below_ hb10 kI.lt;replace kA:=kA.below_ hb10 kA.lt;replace kB:=kB.below_ hb10 kB.lt;replace HA:=Lib.hid (HA.out.ext hb10);clear hb10 HW2 HW3;unfold swV swC;dsimp only;obtain⟨t0,t1,t2,t3,t4,t5,t6,t7,t8,t9,t10⟩:=zc11 kB;obtain⟨tf0,tf1,tf2,tf3,tf4,tf5,tf6,tf7,tf8,tf9,tf10,-⟩:=zf kB;have zt:=kB.lt;go_upto_region 14 with fail;obtain⟨U10,hU⟩:∃ U,setN w10 BB 0 (zkx S3 u30 v30 u31 v31 u32 v32 u33 v33 u34 v34 u35 v35 u36 v36 u37 v37)=U:=⟨_,rfl⟩;have hUn:=zs11 hU;have k_:=zsw hU kB;replace kS:=(show Blk U10 _ _ _ from by rw[←hU];exact kS.kept (grown_setN _ _ _ _) (by simp;omega));replace kI:=(show Blk U10 _ _ _ from by rw[←hU];exact kI.kept (grown_setN _ _ _ _) (by simp;omega));replace kA:=(show Blk U10 _ _ _ from by rw[←hU];exact kA.kept (grown_setN _ _ _ _) (by simp;omega));have HB:Hid (SwO U10 0 ⟨u30,v30,u31,v31,u32,v32,u33,v33,u34,v34,u35,v35,u36,v36,u37,v37⟩ S3):=by show SwO _ _ _ _;rw[←hU];exact SwO.farO ob kB _
  replace HA:Hid (SwO U10 0 ⟨m30,n30,m31,n31,m32,n32,m33,n33,m34,n34,m35,n35,m36,n36,m37,n37⟩ S3):=by show SwO _ _ _ _;rw[←hU];exact SwO.farO HA.out kB _
  replace bw:Below w.heap.size w U10:=by rw[←hU];exact below_setN bw (by omega) _
  replace bv:Below V2.heap.size V2 U10:=by rw[←hU];exact below_setN bv lBB _
  rw[hUn];clear hUn hU zt kB t0 tf0 t1 tf1 t2 tf2 t3 tf3 t4 tf4 t5 tf5 t6 tf6 t7 tf7 t8 tf8 t9 tf9 t10 tf10;have kB:=k_;clear k_;clear ob;have HSW:=Lib.hid (sameSwap_refl ⟨m30,n30,m31,n31,m32,n32,m33,n33,m34,n34,m35,n35,m36,n36,m37,n37⟩ ⟨u30,v30,u31,v31,u32,v32,u33,v33,u34,v34,u35,v35,u36,v36,u37,v37⟩ S3 U10 HA.out.sw HB.out.sw HF3.out);unfold swV swC at HSW;have zkA_:=kA.lt;obtain⟨qa0,qa1,qa2,qa3,qa4,qa5,qa6,qa7,qa8,qa9,qa10⟩:=zc11 kA;have zkB_:=kB.lt;obtain⟨qb0,qb1,qb2,qb3,qb4,qb5,qb6,qb7,qb8,qb9,qb10⟩:=zc11 kB;go_wp2_with fail;refine HSW.out.mono ?_;rintro e11 w11 ⟨rfl,hb11⟩;clear zkA_ qa0 qa1 qa2 qa3 qa4 qa5 qa6 qa7 qa8 qa9 qa10;clear zkB_ qb0 qb1 qb2 qb3 qb4 qb5 qb6 qb7 qb8 qb9 qb10;replace bw:=bw.trans (hb11.mono bw.size);replace bv:=bv.trans (hb11.mono bv.size);replace kS:=kS.below_ hb11 kS.lt;replace kI:=kI.below_ hb11 kI.lt;replace kA:=kA.below_ hb11 kA.lt;replace kB:=kB.below_ hb11 kB.lt;clear hb11 HSW HA HB;have HSS:=Lib.hid (sameSwap_refl ⟨i0,j0,i1,j1,i2,j2,i3,j3,i4,j4,i5,j5,i6,j6,i7,j7⟩ ⟨a0,c0,a1,c1,a2,c2,a3,c3,a4,c4,a5,c5,a6,c6,a7,c7⟩ s w11 (HI2.out.ext bv) (HS.out.ext bw) HF.out);unfold swV swC at HSS;have zkI_:=kI.lt;obtain⟨qa0,qa1,qa2,qa3,qa4,qa5,qa6,qa7,qa8,qa9,qa10⟩:=zc11 kI;have zkS_:=kS.lt;obtain⟨qb0,qb1,qb2,qb3,qb4,qb5,qb6,qb7,qb8,qb9,qb10⟩:=zc11 kS;go_wp2_with fail;refine HSS.out.mono ?_;rintro e12 w12 ⟨rfl,hb12⟩;replace bw:=bw.trans (hb12.mono bw.size);go_wp2_with fail;refine (awake_any w12 (HTZ.out.ext HW0 bw)).mono ?_;rintro e13 w13 ⟨rfl,hb13⟩;go_wp2_with fail;go_ret;exact⟨rfl,bw.trans (hb13.mono bw.size)⟩
end Go.Proofs.YthijbipidbjpfaaGreatDoor
namespace Go.Proofs.YthijbipidbjpfaaGreatDoor
open Go.RowKit Go.Maps
open Go.ChangeShapes Go.WideShapes Go.ChangeAt
theorem own:ownKnob Tryz.prog.godebug=none:=by kernel_rfl
theorem laidOut:laidOutB Tryz.prog=true:=by kernel_rfl
section
variable {H : Type} {enc : TypeId × Value → H} {P : Program}
theorem trodAll_below(hl:laidOutB P=true){W W':World}(hb:Below W.heap.size W W'):∀ (ts:List TypeId) (vs:List Value) (ds:List (DataW H)) (ps:List MemPlace),
  (∀ t ∈ ts,P.readableRec t=true∧t<P.types.size)→(∀ x ∈ ps,x.block<W.heap.size)→DataW.TrodAll enc P W 0 (fun _=>true) true ts vs ds ps →
  DataW.TrodAll enc P W' 0 (fun b=>decide (b<W.heap.size)) true ts vs ds ps
 | [],[],[],ps,_,_,h=>h
 | [],_::_,_,_,_,_,h=>by simp[DataW.TrodAll] at h
 | [],[],_::_,_,_,_,h=>by simp[DataW.TrodAll] at h
 | _::_,[],_,_,_,_,h=>by simp[DataW.TrodAll] at h
 | _::_,_::_,[],_,_,_,h=>by simp[DataW.TrodAll] at h
 | t::ts,v::vs,d::ds,ps,hr,hlt,h=>by
  obtain⟨p,q,h1,h2,rfl⟩:=h;exact⟨p,q,Below.trod hl (hr t (by simp)).1 (hr t (by simp)).2 h1 hb (fun x hx=>hlt x (by simp[hx])),trodAll_below hl hb ts vs ds q (fun t ht=>hr t (by simp[ht])) (fun x hx=>hlt x (by simp[hx])) h2,rfl⟩
theorem law_post(hl:laidOutB P=true){f:Func}{s:ChangeSpec}{B:TypeId}(hvars:s.vars=[])(hrt:f.resultTypes=#[B])(hB:P.underlying B=some .bool){W W':World}{args:Array Value}{ds gs:List (DataW H)}{before:List MemPlace}
  (hr:∀ t ∈ f.params.toList,P.readableRec t=true∧t<P.types.size)
  (hW:DataW.Whole enc P f.params.toList s.vars false W args.toList ds gs before) (hs:s.fn H (ds++gs)={ results:=[.lit (.bool true)],args:=ds }) (hb:Below W.heap.size W W') :
  s.post enc P f false true false false W args (.bool true) W':=by
 have hlt:∀ p ∈ before,p.block<W.heap.size:=fun p hp=>hW.lt p hp
 have hW0:=hW;obtain⟨p,q,hA,hV,rfl,_,_⟩:=hW0;rw[hvars] at hV;obtain⟨rfl,rfl⟩:=trodVars_none hV;refine⟨ds,[],p++[],[],p,[],hW,?_,?_,?_,World.keptBut_mono (fun x hx=>⟨hx,.inr (.inl (by simpa using hx))⟩) (hb.frame (· ∈ p++[])),fun h=>by cases h⟩
 ·rw[hs,hrt]
  exact trodAll_cons_mk (shut_bool hB _) trodAll_mk0
 ·rw[hs]
  exact trodAll_below hl hb _ _ _ _ hr (fun x hx=>hlt x (by simpa using hx)) hA
 ·rw[hvars,hs]
  rfl
end
section
variable {H : Type} {enc : TypeId × Value → H} {P : Program} {W : World}
end
def laidV {H : Type} : List (String × DataW H) := [("math/bits.deBruijn64tab", Rows.laid_math_bits_deBruijn64tab)]
theorem gTab : Tryz.prog.globalNamed "math/bits.deBruijn64tab" = some 0 := by kernel_rfl
theorem tTab:(Tryz.prog.globals[0]?).map (·.type)=some 239:=by kernel_rfl
theorem cells1:Tryz.prog.cellsOf 5=1:=by kernel_rfl
theorem door_met(os:Os)(args:Array Value):laidMetH Tryz.prog laidV ((World.doorLaid Tryz.prog 400 os).forCall (fun _ _=>0) ⟨#[],args,[]⟩).memory:=
 laidMetH_of_parts3 (fuel:=8) (laidMet_of_run' 8 (by kernel_rfl) (by kernel_rfl)) (by kernel_rfl) (by kernel_rfl)
theorem tab_list{H:Type}:(Rows.laid_math_bits_deBruijn64tab:DataW H)=.agg (Lib.deBruijn64tab.map fun (n:Nat)=>.lit (.int .u8 (n:Int))):=rfl
theorem tab_len:Lib.deBruijn64tab.length=64:=by decide
theorem of_laid{W:World}(h:laidMetH Tryz.prog laidV W):TZ W:=by
 rw[MakeChecks.laidMetH_plain _ _ _ (by kernel_rfl)] at h;obtain⟨ps,⟨g0,t0,cs0,f0,p0,q0,hg0,ht0,hv0,hd0,_,_⟩,_,_⟩:=h;obtain rfl:=Option.some.inj (gTab.symm.trans hg0);obtain rfl:=Option.some.inj (tTab.symm.trans ht0);obtain⟨xs,m,rfl,hx,hlen,hn,hel⟩:=DataW.trod_array Tryz.underlying239 hd0;rw[cells1] at hel;rw[tab_list] at hx;simp only[Prod.mk.injEq,DataW.agg.injEq] at hx;intro j hj;rw[tab_len] at hj;have h1:=hel j hj
 have hL:(xs.map (·.1))[j]? = some (.lit (.int .u8 ((Lib.deBruijn64tab.getD j 0:Nat):Int))):=by
  rw[←hx.1,List.getElem?_map,List.getD_eq_getElem?_getD,List.getElem?_eq_getElem (by rw[tab_len];exact hj)];rfl
 rw[List.getElem?_map,Option.map_eq_some_iff] at hL;obtain⟨x,hxi,hxa⟩:=hL;rw[hxi] at h1;obtain⟨k0,e0,f0,_⟩:=DataW.trod_int Tryz.underlying5 (show _=some x from h1);rw[f0] at hxa;simp at hxa;subst hxa;have v0:=World.var?_cell hg0 hv0 j
 have q0:((cs0.toList.drop j).take 1)[0]? = some (.int .u8 ((Lib.deBruijn64tab.getD j 0:Nat):Int)):=by
  have e1:=e0;rw[Nat.mul_one] at e1;rw[e1];rfl
 rw[List.getElem?_take_of_lt (by omega),List.getElem?_drop,Nat.add_zero,Array.getElem?_toList] at q0;exact v0.trans q0
end Go.Proofs.YthijbipidbjpfaaGreatDoor
namespace Go.Proofs.YthijbipidbjpfaaGreatDoor
open Go.RowKit Go.Maps
open Go.ChangeShapes Go.WideShapes Go.ChangeAt Go.Joins Go.Deep
section
variable {H : Type} {enc : TypeId × Value → H} {P : Program} {W : World} {α : Type}
theorem flatR_inv(E:Elt P α):∀ (l:List α) (j:Nat) (u:Value),(E.flat l)[j]? = some u→∃ k m x,l[k]? = some x∧(E.enc x)[m]? = some u∧j=k*E.sz+m
 | [],j,u,h=>by simp[Elt.flat] at h
 | y::l,j,u,h=>by
  have e:E.flat (y::l)=E.enc y++E.flat l:=rfl;rw[e] at h
  by_cases hj:j<E.sz
  ·rw[List.getElem?_append_left (by rw[E.hlen];exact hj)] at h
   exact⟨0,j,y,rfl,h,by omega⟩
  ·rw[List.getElem?_append_right (by rw[E.hlen];omega),E.hlen] at h
   obtain⟨k,m,x,h1,h2,h3⟩:=flatR_inv E l _ u h;exact⟨k+1,m,x,h1,h2,by rw[Nat.succ_mul];omega⟩
theorem SR.of_at{E:Elt P α}{b off:Nat}{l:List α}(hb:0<l.length→b<W.heap.size)(h:∀ i x,l[i]? = some x→∀ (j:Nat) u,(E.enc x)[j]? = some u→W.cell? ⟨b,off+i*E.sz+j,none⟩=some u):SR E W (some ⟨b,off,none⟩) l:=fun hp=>by
 refine⟨b,off,rfl,hb (by rw[E.flat_length] at hp;exact Nat.pos_of_mul_pos_right hp),fun j u hu => ?_⟩;obtain⟨k,m,x,h1,h2,rfl⟩:=flatR_inv E l j u hu;rw[←Nat.add_assoc];exact h k x h1 m u h2
end
set_option maxRecDepth 100000
section
variable {H : Type} {enc : TypeId × Value → H} {W : World}
theorem cell_of_take{cs:List Value}{o:Nat}{u:Value}{n:Nat}(hn:n=1)(e:(cs.drop o).take n=[u]):cs[o]? = some u:=by
 have h3:((cs.drop o).take n)[0]? = some u:=by rw[e];rfl
 rw[hn,List.getElem?_take_of_lt (by omega),List.getElem?_drop,Nat.add_zero] at h3;exact h3
theorem cell_in{cs:List Value}{o m i:Nat}{u:Value}(hi:i<m)(h:((cs.drop o).take m)[i]? = some u):cs[o+i]? = some u:=by
 rwa [List.getElem?_take_of_lt hi,List.getElem?_drop] at h
theorem sr_each{α:Type}(E:Elt Tryz.prog α){a':Addr}{len:Nat}(d:α)(Q:α→Prop)(each:∀ i,i<len→∃ x:α,Q x∧∀ (j:Nat) u,(E.enc x)[j]? = some u→W.cell? (a'.add (i*E.sz+j))=some u) :
  ∃ l:List α,l.length=len∧SR E W (some a') l∧∀ x ∈ l,Q x:=by
 let X:Nat→α:=fun i=>if h:i<len then Classical.choose (each i h) else d
 have hX:∀ i,i<len→Q (X i)∧∀ (j:Nat) u,(E.enc (X i))[j]? = some u→W.cell? (a'.add (i*E.sz+j))=some u:=by
  intro i hi;have:X i=Classical.choose (each i hi):=dif_pos hi;rw[this];exact Classical.choose_spec (each i hi)
 refine⟨(List.range len).map X,by simp,?_,fun x hx => ?_⟩
 ·rcases Nat.eq_zero_or_pos len with h0 | h0
  ·subst h0
   exact SR.nil
  ·obtain⟨b,off,sp⟩:=a'
   have hpos:=E.pos;have hu0:(E.enc (X 0))[0]? = some ((E.enc (X 0))[0]'(by rw[E.hlen];exact hpos)):=List.getElem?_eq_getElem _;have hc0:=(hX 0 h0).2 0 _ hu0;rw[Nat.zero_mul,Nat.zero_add] at hc0
   cases sp with
   | some s=>
    simp[Addr.add,World.cell?] at hc0
    split at hc0 <;> cases hc0
   | none=>
    have hadd:∀ k,(⟨b,off,none⟩:Addr).add k=⟨b,off+k,none⟩:=fun k=>by by_cases h:k=0 <;> simp[Addr.add,h]
    rw[hadd] at hc0;refine SR.of_at (fun _=>World.block_lt_of_cell? W _ hc0) (fun i x hi j u hu => ?_);obtain⟨hi',rfl⟩:=List.getElem?_eq_some_iff.1 hi;simp at hi';simp only[List.getElem_map,List.getElem_range] at hu;have:=(hX i hi').2 j u hu;rw[hadd] at this;rw[Nat.add_assoc];exact this
 ·obtain⟨i,hi,rfl⟩:=List.mem_map.1 hx
  exact(hX i (List.mem_range.1 hi)).1
theorem open_rowE{α:Type}(E:Elt Tryz.prog α)(ce:(Tryz.prog).cellsOf E.e=E.sz)(d:α)(Q:α→Prop)
  (hel:∀ (cs':List Value) (k:Nat) x,DataW.trod enc Tryz.prog W 0 (fun _=>true) true k E.e cs'=some x→∃ y,Q y∧∀ (j:Nat) u,(E.enc y)[j]? = some u→cs'[j]? = some u)
  {fuel:Nat} {cs:List Value} {x:DataW H × List MemPlace} (h:DataW.trod enc Tryz.prog W 0 (fun _=>true) true fuel E.s cs=some x):∃ A c l,cs=[.slice A l.length c]∧SR E W A l∧∀ y ∈ l,Q y:=by
 rcases open_slice E.hs h with ⟨rfl,_⟩ | ⟨a',len',cap',m,n,D,Pl,rfl,_,hl,hm,hmm,_,hx⟩
 ·exact⟨none,0,[],rfl,SR.nil,fun y hy=>by cases hy⟩
 ·simp only[if_true] at hmm
  subst hmm
  have each:∀ i,i<len'→∃ x:α,Q x∧∀ (j:Nat) u,(E.enc x)[j]? = some u→W.cell? (a'.add (i*E.sz+j))=some u:=by
   intro i hi;obtain⟨cs',h1,h2⟩:=hx i (by omega);rw[ce] at h1;obtain⟨_,hlen,hcell⟩:=World.cells?_some h1;obtain⟨y,hq,hy⟩:=hel cs' _ _ h2;refine⟨y,hq,fun j u hu => ?_⟩
   have hj:j<E.sz:=by
    have:=(List.getElem?_eq_some_iff.1 hu).1
    rwa [E.hlen] at this
   have:=hcell j hj;rw[add_add] at this;rw[this];exact hy j u hu
  obtain⟨l,h1,h2,h3⟩:=sr_each E d Q each;exact⟨some a',_,l,by rw[h1],h2,h3⟩
variable {fuel : Nat} {cs : List Value} {x : DataW H × List MemPlace}
theorem ci_:(Tryz.prog).cellsOf 3=1:=by kernel_rfl
theorem cb_:(Tryz.prog).cellsOf 4=1:=by kernel_rfl
theorem open_rI(h:DataW.trod enc Tryz.prog W 0 (fun _=>true) true fuel 22 cs=some x):∃ A c l,cs=[.slice A l.length c]∧SR intE W A l:=by
 obtain⟨A,c,l,h1,h2,_⟩:=open_rowE intE (by kernel_rfl) 0 (fun _=>True) (fun cs' k x h=>by
  obtain⟨a,e0,_,_⟩:=DataW.trod_int Tryz.underlying3 h
  exact⟨a,trivial,fun j u hu=>by rw[e0];exact hu⟩) h
 exact⟨A,c,l,h1,h2⟩
theorem open_rB(h:DataW.trod enc Tryz.prog W 0 (fun _=>true) true fuel 23 cs=some x):∃ A c l,cs=[.slice A l.length c]∧SR boolE W A l:=by
 obtain⟨A,c,l,h1,h2,_⟩:=open_rowE boolE (by kernel_rfl) false (fun _=>True) (fun cs' k x h=>by
  obtain⟨a,e0,_⟩:=DataW.trod_bool Tryz.underlying4 h
  exact⟨a,trivial,fun j u hu=>by rw[e0];exact hu⟩) h
 exact⟨A,c,l,h1,h2⟩
theorem three_{cs':List Value}{a b c:Value}(q0:cs'[0]? = some a)(q1:cs'[1]? = some b)(q2:cs'[2]? = some c):∀ (j:Nat) u,([a,b,c]:List Value)[j]? = some u→cs'[j]? = some u:=fun j u hu=>by
 match j,hu with
 | 0,hu=>rw[q0];exact hu
 | 1,hu=>rw[q1];exact hu
 | 2,hu=>rw[q2];exact hu
 | j+3,hu=>simp at hu
theorem open_rW(h:DataW.trod enc Tryz.prog W 0 (fun _=>true) true fuel 26 cs=some x):∃ A c l,cs=[.slice A l.length c]∧SR wrE W A l:=by
 obtain⟨A,c,l,h1,h2,_⟩:=open_rowE wrE (by kernel_rfl) (0,0,0) (fun _=>True) (fun cs' k x h=>by
  obtain⟨y0,y1,y2,n,_,_,g0,g1,g2⟩:=trod_struct3 Tryz.underlying106 h
  obtain⟨a,e0,_,_⟩:=DataW.trod_int Tryz.underlying3 g0
  obtain⟨b,e1,_,_⟩:=DataW.trod_int Tryz.underlying3 g1
  obtain⟨c,e2,_,_⟩:=DataW.trod_int Tryz.underlying3 g2
  exact⟨(a,b,c),trivial,three_ (cell_of_take ci_ e0) (cell_of_take ci_ e1) (cell_of_take ci_ e2)⟩) h
 exact⟨A,c,l,h1,h2⟩
theorem open_rR(h:DataW.trod enc Tryz.prog W 0 (fun _=>true) true fuel 27 cs=some x):∃ A c l,cs=[.slice A l.length c]∧SR rdE W A l∧∀ v ∈ l,(Lit.int .i64 v.2.2).wf=true:=
 open_rowE rdE (by kernel_rfl) (0,0,0) (fun v=>(Lit.int .i64 v.2.2).wf=true) (fun cs' k x h=>by
  obtain⟨y0,y1,y2,n,_,_,g0,g1,g2⟩:=trod_struct3 Tryz.underlying100 h
  obtain⟨a,e0,_,_⟩:=DataW.trod_int Tryz.underlying3 g0
  obtain⟨b,e1,_,_⟩:=DataW.trod_int Tryz.underlying3 g1
  obtain⟨c,e2,_,wf⟩:=DataW.trod_int Tryz.underlying3 g2
  exact⟨(a,b,c),wf,three_ (cell_of_take ci_ e0) (cell_of_take ci_ e1) (cell_of_take ci_ e2)⟩) h
theorem open_ct(h:DataW.trod enc Tryz.prog W 0 (fun _=>true) true fuel 38 cs=some x):∃ c:Ct,∀ (j:Nat) u,(ctC c)[j]? = some u→cs[j]? = some u:=by
 have cu:(Tryz.prog).cellsOf 36=1:=by kernel_rfl
 obtain⟨zs,m2,_,_,_,hz,hel⟩:=DataW.trod_array Tryz.underlying38 h;rw[cu] at hel
 have q2:∀ j,j<8→∃ z:Int,cs[j]? = some (.int .u64 z):=fun j hj=>by
  have h3:=hel j hj;rw[List.getElem?_eq_getElem (by omega)] at h3;obtain⟨z,e,_,_⟩:=DataW.trod_int Tryz.underlying36 h3;have h4:=cell_of_take rfl e;rw[Nat.mul_one] at h4;exact⟨z,h4⟩
 obtain⟨z0,e0⟩:=q2 0 (by decide);obtain⟨z1,e1⟩:=q2 1 (by decide);obtain⟨z2,e2⟩:=q2 2 (by decide);obtain⟨z3,e3⟩:=q2 3 (by decide);obtain⟨z4,e4⟩:=q2 4 (by decide);obtain⟨z5,e5⟩:=q2 5 (by decide);obtain⟨z6,e6⟩:=q2 6 (by decide);obtain⟨z7,e7⟩:=q2 7 (by decide);refine⟨⟨z0,z1,z2,z3,z4,z5,z6,z7⟩,fun j u hu => ?_⟩
 match j,hu with
 | 0,hu=>rw[e0];exact hu
 | 1,hu=>rw[e1];exact hu
 | 2,hu=>rw[e2];exact hu
 | 3,hu=>rw[e3];exact hu
 | 4,hu=>rw[e4];exact hu
 | 5,hu=>rw[e5];exact hu
 | 6,hu=>rw[e6];exact hu
 | 7,hu=>rw[e7];exact hu
 | j+8,hu=>simp[ctC] at hu
theorem open_rC(h:DataW.trod enc Tryz.prog W 0 (fun _=>true) true fuel 28 cs=some x):∃ A c l,cs=[.slice A l.length c]∧SR ctE W A l:=by
 obtain⟨A,c,l,h1,h2,_⟩:=open_rowE ctE (by kernel_rfl) .zero (fun _=>True) (fun cs' k x h=>by
  obtain⟨c,hc⟩:=open_ct h
  exact⟨c,trivial,hc⟩) h
 exact⟨A,c,l,h1,h2⟩
theorem open_rJ(h:DataW.trod enc Tryz.prog W 0 (fun _=>true) true fuel 29 cs=some x):∃ A c l,cs=[.slice A l.length c]∧SR jbE W A l:=by
 have cc:(Tryz.prog).cellsOf 38=8:=by kernel_rfl
 obtain⟨A,c,l,h1,h2,_⟩:=open_rowE jbE (by kernel_rfl) .zero (fun _=>True) (fun cs' k x h=>by
  obtain⟨xs,k,_,_,_,hxl,hfl⟩:=DataW.trod_struct Tryz.underlying115 h
  have hx4:xs.length=4:=hxl
  have get:∀ j,j<4→∃ y,xs[j]? = some y:=fun j hj=>⟨_,List.getElem?_eq_getElem (by omega)⟩
  obtain⟨y0,f0⟩:=get 0 (by decide)
  obtain⟨y1,f1⟩:=get 1 (by decide)
  obtain⟨y2,f2⟩:=get 2 (by decide)
  obtain⟨y3,f3⟩:=get 3 (by decide)
  have g0:DataW.trod enc Tryz.prog W 0 (fun _=>true) true k 4 ((cs'.drop 0).take ((Tryz.prog).cellsOf 4))=some y0:=(hfl 0 _ rfl).trans f0
  have g1:DataW.trod enc Tryz.prog W 0 (fun _=>true) true k 3 ((cs'.drop 1).take ((Tryz.prog).cellsOf 3))=some y1:=(hfl 1 _ rfl).trans f1
  have g2:DataW.trod enc Tryz.prog W 0 (fun _=>true) true k 3 ((cs'.drop 2).take ((Tryz.prog).cellsOf 3))=some y2:=(hfl 2 _ rfl).trans f2
  have g3:DataW.trod enc Tryz.prog W 0 (fun _=>true) true k 38 ((cs'.drop 3).take ((Tryz.prog).cellsOf 38))=some y3:=(hfl 3 _ rfl).trans f3
  rw[cc] at g3
  obtain⟨a,e0,_⟩:=DataW.trod_bool Tryz.underlying4 g0
  obtain⟨b,e1,_,_⟩:=DataW.trod_int Tryz.underlying3 g1
  obtain⟨d,e2,_,_⟩:=DataW.trod_int Tryz.underlying3 g2
  obtain⟨c,hc⟩:=open_ct g3
  refine⟨⟨a,b,d,c⟩,trivial,fun j u hu => ?_⟩
  match j,hu with
  | 0,hu=>rw[cell_of_take cb_ e0];exact hu
  | 1,hu=>rw[cell_of_take ci_ e1];exact hu
  | 2,hu=>rw[cell_of_take ci_ e2];exact hu
  | j+3,hu=>
   have hu':(ctC c)[j]? = some u:=hu
   have hj:j<8:=(List.getElem?_eq_some_iff.1 hu').1
   have:=cell_in hj (hc j u hu')
   rw[show j+3=3+j by omega]
   exact this) h
 exact⟨A,c,l,h1,h2⟩
theorem open_swap{base:Nat}{v:Value}{d:DataW H}{p:List MemPlace}(hv:Value.okWide Tryz.prog W .any base 35 v)(h:DataW.Trod enc Tryz.prog W 0 (fun _=>true) true 35 v d p) :
  ∃ L s,v=swV L s∧SwR W L s∧∀ v ∈ s.rd,(Lit.int .i64 v.2.2).wf=true:=by
 obtain⟨cs,rfl,hsz⟩:=okWide_struct Tryz.underlying35 hv;have c11:(Tryz.prog).cellsOf 35=11:=by kernel_rfl
 rw[c11] at hsz;obtain⟨fuel,hfu⟩:=h;obtain⟨xs,k,_,_,_,hxl,hfl⟩:=DataW.trod_struct Tryz.underlying35 hfu;have hx7:xs.length=7:=hxl
 have get:∀ j,j<7→∃ y,xs[j]? = some y:=fun j hj=>⟨_,List.getElem?_eq_getElem (by omega)⟩
 obtain⟨ls,hls⟩:∃ ls,(Value.agg cs).cells.toList=ls:=⟨_,rfl⟩
 have hcl:∀ j:Nat,ls[j]? = cs[j]?:=fun j=>by rw[←hls];simp[Value.cells]
 rw[hls] at hfl;obtain⟨y0,f0⟩:=get 0 (by decide);obtain⟨y1,f1⟩:=get 1 (by decide);obtain⟨y2,f2⟩:=get 2 (by decide);obtain⟨y3,f3⟩:=get 3 (by decide);obtain⟨y4,f4⟩:=get 4 (by decide);obtain⟨y5,f5⟩:=get 5 (by decide);obtain⟨y6,f6⟩:=get 6 (by decide);have c2:(Tryz.prog).cellsOf 25=2:=by kernel_rfl
 have c3:(Tryz.prog).cellsOf 31=3:=by kernel_rfl
 have c4:(Tryz.prog).cellsOf 33=2:=by kernel_rfl
 have cW:(Tryz.prog).cellsOf 26=1:=by kernel_rfl
 have cR:(Tryz.prog).cellsOf 27=1:=by kernel_rfl
 have cI:(Tryz.prog).cellsOf 22=1:=by kernel_rfl
 have cB:(Tryz.prog).cellsOf 23=1:=by kernel_rfl
 have cC:(Tryz.prog).cellsOf 28=1:=by kernel_rfl
 have cJ:(Tryz.prog).cellsOf 29=1:=by kernel_rfl
 have g0:DataW.trod enc Tryz.prog W 0 (fun _=>true) true k 3 ((ls.drop 0).take ((Tryz.prog).cellsOf 3))=some y0:=(hfl 0 _ rfl).trans f0;have g1:DataW.trod enc Tryz.prog W 0 (fun _=>true) true k 25 ((ls.drop 1).take ((Tryz.prog).cellsOf 25))=some y1:=(hfl 1 _ rfl).trans f1;have g2:DataW.trod enc Tryz.prog W 0 (fun _=>true) true k 26 ((ls.drop 3).take ((Tryz.prog).cellsOf 26))=some y2:=(hfl 2 _ rfl).trans f2;have g3:DataW.trod enc Tryz.prog W 0 (fun _=>true) true k 27 ((ls.drop 4).take ((Tryz.prog).cellsOf 27))=some y3:=(hfl 3 _ rfl).trans f3;have g4:DataW.trod enc Tryz.prog W 0 (fun _=>true) true k 22 ((ls.drop 5).take ((Tryz.prog).cellsOf 22))=some y4:=(hfl 4 _ rfl).trans f4;have g5:DataW.trod enc Tryz.prog W 0 (fun _=>true) true k 31 ((ls.drop 6).take ((Tryz.prog).cellsOf 31))=some y5:=(hfl 5 _ rfl).trans f5;have g6:DataW.trod enc Tryz.prog W 0 (fun _=>true) true k 33 ((ls.drop 9).take ((Tryz.prog).cellsOf 33))=some y6:=(hfl 6 _ rfl).trans f6;rw[c2] at g1;rw[c3] at g5;rw[c4] at g6;obtain⟨cap,e0,_,_⟩:=DataW.trod_int Tryz.underlying3 g0;have q0:=cell_of_take ci_ e0;obtain⟨s0,s1,n1,_,_,t0,t1⟩:=trod_struct2 Tryz.underlying25 g1;obtain⟨a0,k0,l0,e1,r0⟩:=open_rI t0;obtain⟨a1,k1,l1,e2,r1⟩:=open_rB t1;have q1:=cell_in (by decide) (cell_of_take (o:=0) cI e1);have q2:=cell_in (by decide) (cell_of_take (o:=1) cB e2);obtain⟨a2,k2,l2,e3,r2⟩:=open_rW g2;have q3:=cell_of_take cW e3;obtain⟨a3,k3,l3,e4,r3,wf⟩:=open_rR g3;have q4:=cell_of_take cR e4;obtain⟨a4,k4,l4,e5,r4⟩:=open_rI g4;have q5:=cell_of_take cI e5;obtain⟨d0,d1,d2,n2,_,_,t0,t1,t2⟩:=trod_struct3 Tryz.underlying31 g5;obtain⟨a5,k5,l5,e6,r5⟩:=open_rC t0;obtain⟨a6,k6,l6,e7,r6⟩:=open_rJ t1;obtain⟨room,e8,_,_⟩:=DataW.trod_int Tryz.underlying3 t2;have q6:=cell_in (by decide) (cell_of_take (o:=0) cC e6);have q7:=cell_in (by decide) (cell_of_take (o:=1) cJ e7);have q8:=cell_in (by decide) (cell_of_take (o:=2) ci_ e8);obtain⟨p0,p1,n3,_,_,t0,t1⟩:=trod_struct2 Tryz.underlying33 g6;obtain⟨size,e9,_,_⟩:=DataW.trod_int Tryz.underlying3 t0;obtain⟨a7,k7,l7,e10,r7⟩:=open_rI t1;have q9:=cell_in (by decide) (cell_of_take (o:=0) ci_ e9);have q10:=cell_in (by decide) (cell_of_take (o:=1) cI e10);refine⟨⟨a0,k0,a1,k1,a2,k2,a3,k3,a4,k4,a5,k5,a6,k6,a7,k7⟩,⟨cap,⟨l0,l1⟩,l2,l3,l4,⟨l5,l6,room⟩,⟨size,l7⟩⟩,?_,⟨r0,r1,r2,r3,r4,r5,r6,r7⟩,wf⟩;unfold swV
 congr 1
 refine Array.ext (by simpa [swC] using hsz) fun j h1 h2 => ?_
 have key:∀ u,ls[j]? = some u→cs[j]=u:=fun u hu=>by
  rw[hcl,Array.getElem?_eq_getElem h1] at hu;injection hu
 match j,h1,h2,key with
 | 0,_,_,key=>exact key _ q0
 | 1,_,_,key=>exact key _ q1
 | 2,_,_,key=>exact key _ q2
 | 3,_,_,key=>exact key _ q3
 | 4,_,_,key=>exact key _ q4
 | 5,_,_,key=>exact key _ q5
 | 6,_,_,key=>exact key _ q6
 | 7,_,_,key=>exact key _ q7
 | 8,_,_,key=>exact key _ q8
 | 9,_,_,key=>exact key _ q9
 | 10,_,_,key=>exact key _ q10
 | j+11,h1,_,_=>omega
end
set_option maxRecDepth 100000
section
variable {H : Type} {enc : TypeId × Value → H} {W : World}
theorem open_swapc{base:Nat}{v:Value}{d:DataW H}{p:List MemPlace}(hv:Value.okWide Tryz.prog W .any base 35 v)(h:DataW.Trod enc Tryz.prog W 0 (fun _=>true) true 35 v d p) :
  ∃ L s,v=swV L s∧SwR W L s∧(∀ v ∈ s.rd,(Lit.int .i64 v.2.2).wf=true)∧s.desc.length≤L.c4:=by
 obtain⟨L,s,rfl,h1,h2⟩:=open_swap hv h;refine⟨L,s,rfl,h1,h2,?_⟩;obtain⟨fuel,hfu⟩:=h;obtain⟨xs,k,_,_,_,hxl,hfl⟩:=DataW.trod_struct Tryz.underlying35 hfu;have hx7:xs.length=7:=hxl;obtain⟨y4,f4⟩:∃ y,xs[4]? = some y:=⟨_,List.getElem?_eq_getElem (by omega)⟩;have cI:(Tryz.prog).cellsOf 22=1:=by kernel_rfl
 have g4:DataW.trod enc Tryz.prog W 0 (fun _=>true) true k 22 (((swV L s).cells.toList.drop 5).take ((Tryz.prog).cellsOf 22))=some y4:=(hfl 4 _ rfl).trans f4;rw[cI,show ((swV L s).cells.toList.drop 5).take 1=[.slice L.a4 s.desc.length L.c4] from rfl] at g4
 rcases open_slice intE.hs g4 with ⟨e,_⟩ | ⟨a',len',cap',m,n,D,Pl,e,_,hl,_⟩
 ·injection e with e
  injection e with _ e1 e2
  omega
 ·injection e with e
  injection e with _ e1 e2
  omega
end
end Go.Proofs.YthijbipidbjpfaaGreatDoor
