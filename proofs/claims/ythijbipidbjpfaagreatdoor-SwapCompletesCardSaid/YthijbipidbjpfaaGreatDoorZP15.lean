import Derived.Test.YthijbipidbjpfaaGreatDoorZP14
import Derived.Test.YthijbipidbjpfaaGreatDoorZP00
import Derived.Test.YthijbipidbjpfaaGreatDoorZP03
import Derived.Test.YthijbipidbjpfaaGreatDoorZP06
import Derived.Test.YthijbipidbjpfaaGreatDoorZP08
set_option linter.unusedSimpArgs false
set_option linter.unusedVariables false
set_option maxRecDepth 100000
set_option maxHeartbeats 8000000
namespace Go.Proofs.YthijbipidbjpfaaGreatDoor
open Go.RowKit Go.Maps
def DjPost(R:Dsk × Jb × Int)(w:World)(e:Ending)(w':World):Prop:=∃ A c B d,e=.returned (.tuple #[dkV A c B d R.1,jbV R.2.1,.int .i64 R.2.2])∧OwnE ctE w' w.heap.size A c R.1.cells∧OwnE jbE w' w.heap.size B d R.1.jobs∧Below w.heap.size w w'
theorem OwnE.grown{α:Type}{E:Elt Tryz.prog α}{w w':World}{base b:Nat}{A:Option Addr}{c:Nat}{l:List α}(h:OwnE E w base A c l)(hg:w.grownBy w' (some b))(hb:b<base):OwnE E w' base A c l:=by
 by_cases hc:c=0
 ·have hl0:l=[]:=by
   have:=h.cr.2;exact List.length_eq_zero_iff.1 (by omega)
  subst hl0 hc;exact⟨.inl ⟨rfl,SR.nil⟩,.inl rfl⟩
 ·have h1:=h.row hc
  have key:OwnR E w' base (.slice A l.length c) l:=by
   obtain⟨hl,⟨e,hn⟩ | ⟨g,cap,cur,e,hg',hb',hr⟩⟩:=h1
   ·exact⟨hl,.inl ⟨e,hn⟩⟩
   ·refine⟨hl,.inr ⟨g,cap,cur,e,hg',?_,hr⟩⟩
    rw[hg.block g (Array.getElem?_eq_some_iff.1 hb').1 (by simp;omega)];exact hb'
  exact⟨.inr key,.inr key⟩
theorem cmpD_good{d:Dsk}(h:(chkD d).1=0){k:Nat}{j:Jb}(hj:d.jobs[k]? = some j):cmpD d k=((dkR d j k).1,(dkR d j k).2,0):=by
 have hk:=(List.getElem?_eq_some_iff.1 hj).1;have hg:d.jobs.getD k .zero=j:=by rw[List.getD_eq_getElem?_getD,hj];rfl
 unfold cmpD dkR;rw[if_neg (by simpa using h),if_neg (by omega),Int.toNat_natCast,hg]
 cases hw:j.wr <;> simp[hw]
theorem dComplete_any(A B:Option Addr)(c d:Nat)(k0:Dsk)(i:Int)(w:World)(ha:SR ctE w A k0.cells)(hb:SR jbE w B k0.jobs)(la:k0.cells.length≤1000)(lb:k0.jobs.length≤1000) :
  Calls Tryz.prog 137 #[dkV A c B d k0,.int .i64 i] w (DjPost (cmpD k0 i) w):=by
 have HA:=Lib.hid ha;have HB:=Lib.hid hb;obtain⟨⟨z,nz⟩,hz⟩:∃ r,chkD k0=r:=⟨_,rfl⟩;have HZ:=Lib.hid hz;clear ha hb;obtain⟨X,hX⟩:∃ X,((w.alloc (.cells #[.slice A k0.cells.length c,.slice B k0.jobs.length d,.int .i64 k0.room] 31)).alloc (.cells #[.slice none 0 0,.slice none 0 0,.int .i64 0] 31)).alloc (.cells (zkj false 0 0 0 0 0 0 0 0 0 0).toArray 115)=X:=⟨_,rfl⟩;have kD:Blk X w.heap.size 31 #[.slice A k0.cells.length c,.slice B k0.jobs.length d,.int .i64 k0.room]:=by rw[←hX];exact zbk
 have kA:Blk X (w.heap.size+1) 31 #[.slice none 0 0,.slice none 0 0,.int .i64 0]:=by rw[←hX];exact(Blk.new_ (by simp) rfl:Blk _ (w.heap.size+1) _ _).alloc_ _
 have kB:Blk X (w.heap.size+2) 115 (zkj false 0 0 0 0 0 0 0 0 0 0).toArray:=by rw[←hX];exact Blk.new_ (by simp) rfl
 have BX:Below w.heap.size w X:=by rw[←hX];exact zbl
 have hXs:X.heap.size=w.heap.size+3:=by rw[←hX];simp
 unfold dkV
 by_cases z0:z=0
 ·subst z0
  have hok:=(chkD_ok (d:=k0)).1 (by rw[hz])
  by_cases i0:i<0
  ·have HE:Hid (cmpD k0 i=(.zero,.zero,6)):=by show _=_;unfold cmpD;rw[hz,if_neg (by simp),if_pos (.inl i0)]
   have i0b:decide (i<0)=true:=by simpa using i0
   rw[HE.out];clear hz hok;obtain⟨q0,q1,q2⟩:=zc3 kD;have zD:=kD.lt
   go_enter Tryz.func137,Tryz.ntmps137
   go_wp2_with fail;(try rw[hX]);clear q0 q1 q2 zD;refine (dCheck_any A B c d k0 X (HB.out.ext BX) (by omega) (by omega) HZ.out).mono ?_;rintro e1 w1 ⟨rfl,hb1⟩;have B1:=zbt BX hb1;replace kD:=kD.below_ hb1 kD.lt;replace kA:=kA.below_ hb1 kA.lt;replace kB:=kB.below_ hb1 kB.lt;have zD:=kD.lt;have zA:=kA.lt;have zB:=kB.lt;obtain⟨q0,q1,q2⟩:=zc3 kD;obtain⟨ta0,ta1,ta2⟩:=zc3 kA;obtain⟨ga0,ga1,ga2,-⟩:=zf kA;obtain⟨tb0,tb1,tb2,tb3,tb4,tb5,tb6,tb7,tb8,tb9,tb10⟩:=zc11 kB;obtain⟨gb0,gb1,gb2,gb3,gb4,gb5,gb6,gb7,gb8,gb9,gb10,-⟩:=zf kB;go_wp2_with fail;go_wp2_with fail;obtain⟨W9,hW9⟩:∃ V,setN (setN w1 (w.heap.size+1) 0 [.slice none 0 0,.slice none 0 0,.int .i64 0]) (w.heap.size+2) 0 (zkj false 0 0 0 0 0 0 0 0 0 0)=V:=⟨_,rfl⟩;rw[zu hW9];have kA9:Blk W9 (w.heap.size+1) 31 #[.slice none 0 0,.slice none 0 0,.int .i64 0]:=by rw[←hW9];exact(blk_setN kA _ rfl).kept (grown_setN _ _ _ _) (by simp)
   have kB9:Blk W9 (w.heap.size+2) 115 (zkj false 0 0 0 0 0 0 0 0 0 0).toArray:=by rw[←hW9];exact blk_setN (kB.kept (grown_setN _ _ _ _) (by simp)) _ rfl
   have b9:Below w.heap.size w W9:=by rw[←hW9];exact below_setN (below_setN B1 (by omega) _) (by omega) _
   clear hW9;obtain⟨rp0,rp1,rp2⟩:=zc3 kA9;refine bodyPost_ret (by simp[results,Tryz.results137,go_sem,rp0,rp1,rp2,zc11 kB9] <;> rfl) rfl ?_;exact⟨none,0,none,0,by rfl,OwnE.nil,OwnE.nil,b9⟩
  ·have i0b:decide (i<0)=false:=by simpa using i0
   by_cases i1:(k0.jobs.length:Int)≤i
   ·have HE:Hid (cmpD k0 i=(.zero,.zero,6)):=by show _=_;unfold cmpD;rw[hz,if_neg (by simp),if_pos (.inr i1)]
    have i1b:decide (i≥(k0.jobs.length:Int))=true:=by simpa using i1
    rw[HE.out];clear hz hok;obtain⟨q0,q1,q2⟩:=zc3 kD;have zD:=kD.lt
    go_enter Tryz.func137,Tryz.ntmps137
    go_wp2_with fail;(try rw[hX]);clear q0 q1 q2 zD;refine (dCheck_any A B c d k0 X (HB.out.ext BX) (by omega) (by omega) HZ.out).mono ?_;rintro e1 w1 ⟨rfl,hb1⟩;have B1:=zbt BX hb1;replace kD:=kD.below_ hb1 kD.lt;replace kA:=kA.below_ hb1 kA.lt;replace kB:=kB.below_ hb1 kB.lt;have zD:=kD.lt;have zA:=kA.lt;have zB:=kB.lt;obtain⟨q0,q1,q2⟩:=zc3 kD;obtain⟨ta0,ta1,ta2⟩:=zc3 kA;obtain⟨ga0,ga1,ga2,-⟩:=zf kA;obtain⟨tb0,tb1,tb2,tb3,tb4,tb5,tb6,tb7,tb8,tb9,tb10⟩:=zc11 kB;obtain⟨gb0,gb1,gb2,gb3,gb4,gb5,gb6,gb7,gb8,gb9,gb10,-⟩:=zf kB;go_wp2_with fail;go_wp2_with fail;obtain⟨W9,hW9⟩:∃ V,setN (setN w1 (w.heap.size+1) 0 [.slice none 0 0,.slice none 0 0,.int .i64 0]) (w.heap.size+2) 0 (zkj false 0 0 0 0 0 0 0 0 0 0)=V:=⟨_,rfl⟩;rw[zu hW9];have kA9:Blk W9 (w.heap.size+1) 31 #[.slice none 0 0,.slice none 0 0,.int .i64 0]:=by rw[←hW9];exact(blk_setN kA _ rfl).kept (grown_setN _ _ _ _) (by simp)
    have kB9:Blk W9 (w.heap.size+2) 115 (zkj false 0 0 0 0 0 0 0 0 0 0).toArray:=by rw[←hW9];exact blk_setN (kB.kept (grown_setN _ _ _ _) (by simp)) _ rfl
    have b9:Below w.heap.size w W9:=by rw[←hW9];exact below_setN (below_setN B1 (by omega) _) (by omega) _
    clear hW9;obtain⟨rp0,rp1,rp2⟩:=zc3 kA9;refine bodyPost_ret (by simp[results,Tryz.results137,go_sem,rp0,rp1,rp2,zc11 kB9] <;> rfl) rfl ?_;exact⟨none,0,none,0,by rfl,OwnE.nil,OwnE.nil,b9⟩
   ·obtain⟨k,rfl⟩:∃ k:Nat,i=k:=⟨i.toNat,by omega⟩
    have i1b:decide ((k:Int)≥(k0.jobs.length:Int))=false:=by simpa using i1
    have hk:k<k0.jobs.length:=by omega
    obtain⟨j,hj⟩:∃ j,k0.jobs[k]? = some j:=⟨_,List.getElem?_eq_getElem hk⟩;have hjm:=hok.inr j (List.mem_of_getElem? hj);have HE:=Lib.hid (cmpD_good (by rw[hz]) hj);rw[HE.out];have HJ:=Lib.hid hj
    have hR1:(dkR k0 j k).1.room=k0.room:=by unfold dkR;cases j.wr <;> rfl
    have hR2:(dkR k0 j k).1.cells.length=k0.cells.length:=by unfold dkR;cases j.wr <;> simp
    obtain⟨⟨RD,RJ⟩,hRR⟩:∃ R,dkR k0 j k=R:=⟨_,rfl⟩;rw[hRR] at hR1 hR2 ⊢;dsimp only at hR1 hR2 ⊢;obtain⟨yw,ys,yf,⟨y0_,y1_,y2_,y3_,y4_,y5_,y6_,y7_⟩⟩:=RJ;have HRR:=Lib.hid hRR;have HR1:=Lib.hid hR1;have HR2:=Lib.hid hR2;clear hz hok hRR hj hR1 hR2;obtain⟨q0,q1,q2⟩:=zc3 kD;have zD:=kD.lt
    go_enter Tryz.func137,Tryz.ntmps137
    go_wp2_with fail;(try rw[hX]);clear q0 q1 q2 zD;refine (dCheck_any A B c d k0 X (HB.out.ext BX) (by omega) (by omega) HZ.out).mono ?_;rintro e1 w1 ⟨rfl,hb1⟩;have B1:=zbt BX hb1;replace kD:=kD.below_ hb1 kD.lt;replace kA:=kA.below_ hb1 kA.lt;replace kB:=kB.below_ hb1 kB.lt;have zD:=kD.lt;have zA:=kA.lt;have zB:=kB.lt;obtain⟨q0,q1,q2⟩:=zc3 kD;obtain⟨ta0,ta1,ta2⟩:=zc3 kA;obtain⟨ga0,ga1,ga2,-⟩:=zf kA;obtain⟨tb0,tb1,tb2,tb3,tb4,tb5,tb6,tb7,tb8,tb9,tb10⟩:=zc11 kB;obtain⟨gb0,gb1,gb2,gb3,gb4,gb5,gb6,gb7,gb8,gb9,gb10,-⟩:=zf kB;go_wp2_with fail;go_wp2_with fail;refine (dClone_any A B c d k0 w1 (HA.out.ext B1) (HB.out.ext B1) la lb).mono ?_;rintro e2 w2 ⟨A1,c1,A2,c2,rfl,o1,o2,hb2⟩;have hs12:=hb2.size;have B2:=zbt B1 hb2;replace kA:=kA.below_ hb2 kA.lt;replace kB:=kB.below_ hb2 kB.lt;clear q0 q1 q2 ta0 ta1 ta2 ga0 ga1 ga2 tb0 gb0 tb1 gb1 tb2 gb2 tb3 gb3 tb4 gb4 tb5 gb5 tb6 gb6 tb7 gb7 tb8 gb8 tb9 gb9 tb10 gb10 kD;unfold dkV;obtain⟨X3,hX3⟩:∃ V,w2.alloc (.cells #[.slice A1 k0.cells.length c1,.slice A2 k0.jobs.length c2,.int .i64 k0.room] 31)=V:=⟨_,rfl⟩;have kE:=za hX3;have b3:=zab hX3;have hX3s:X3.heap.size=w2.heap.size+1:=by rw[←hX3];simp
    have o13:=o1.ext b3;have o23:=o2.ext b3;replace kA:=kA.below_ b3 kA.lt;replace kB:=kB.below_ b3 kB.lt;go_wp2_with fail;(try rw[hX3]);clear hX3;refine (dComplete_first A1 A2 c1 c2 w2.heap.size w1.heap.size k0 k j X3 HJ.out o13 o23 kE (by omega) (by decide) la lb hjm.1 hjm.2.1).mono ?_;rw[HRR.out];rintro e3 w3 ⟨A5,c5,rfl,kE3,oA,oJ,hb3⟩;obtain⟨n1,hn1⟩:∃ n,RD.cells.length=n:=⟨_,rfl⟩;obtain⟨n2,hn2⟩:∃ n,RD.jobs.length=n:=⟨_,rfl⟩;rw[show k0.cells.length=n1 from by rw[←hn1];exact HR2.out.symm,show RD.jobs.length=n2 from hn2] at kE3;have HN1:=Lib.hid hn1;have HN2:=Lib.hid hn2;have hs23:=hb3.size;have B3:Below w.heap.size w w3:=(B2.trans (b3.mono (by omega))).trans (hb3.mono (by omega));replace kA:=kA.below_ hb3 (by omega);replace kB:=kB.below_ hb3 (by omega);replace oJ:=oJ.base_ (base':=w1.heap.size) (by omega);clear kE hn1 hn2 o1 o2 o13 o23 b3 hb3 hb2;rw[show jbV ⟨yw,ys,yf,⟨y0_,y1_,y2_,y3_,y4_,y5_,y6_,y7_⟩⟩=.agg (zkj yw ys yf y0_ y1_ y2_ y3_ y4_ y5_ y6_ y7_).toArray from rfl];obtain⟨X4,hX4⟩:∃ V,w3.alloc (.cells (zkj yw ys yf y0_ y1_ y2_ y3_ y4_ y5_ y6_ y7_).toArray 115)=V:=⟨_,rfl⟩;have kJ:=za hX4;have b4:=zab hX4;have zE3:=kE3.lt;have zA3:=kA.lt;have zB3:=kB.lt;go_wp2_with fail;(try rw[hX4]);clear hX4;obtain⟨cv,hcv⟩:∃ V,X4.drew=V:=⟨_,rfl⟩;have b5:Below X4.heap.size X4 cv:=by rw[←hcv];exact(Below.refl _ _).drew
    have b45:=zbt b4 b5;have kE:=kE3.below_ b45 zE3;replace kA:=kA.below_ b45 zA3;replace kB:=kB.below_ b45 zB3;replace kJ:=kJ.below_ b5 kJ.lt;replace oA:=oA.ext b45;replace oJ:=oJ.ext b45;have cb:=zbt B3 b45;have cs:w3.heap.size<cv.heap.size:=kJ.lt;have hsw:=B1.size;have hsx:=BX.size
    have hS_of:∀ {V:World},Blk V w2.heap.size 31 #[.slice A1 n1 c1,.slice A5 n2 c5,.int .i64 k0.room]→Blk V w3.heap.size 115 (zkj yw ys yf y0_ y1_ y2_ y3_ y4_ y5_ y6_ y7_).toArray→(V.cell? ⟨w2.heap.size,0,none⟩=some (.slice A1 n1 c1)∧V.cell? ⟨w2.heap.size,1,none⟩=some (.slice A5 n2 c5)∧V.cell? ⟨w2.heap.size,2,none⟩=some (.int .i64 k0.room)∧V.cell? ⟨w3.heap.size,0,none⟩=some (.bool yw)∧V.cell? ⟨w3.heap.size,1,none⟩=some (.int .i64 ys)∧V.cell? ⟨w3.heap.size,2,none⟩=some (.int .i64 yf)∧V.cell? ⟨w3.heap.size,3,none⟩=some (.int .u64 y0_)∧V.cell? ⟨w3.heap.size,4,none⟩=some (.int .u64 y1_)∧V.cell? ⟨w3.heap.size,5,none⟩=some (.int .u64 y2_)∧V.cell? ⟨w3.heap.size,6,none⟩=some (.int .u64 y3_)∧V.cell? ⟨w3.heap.size,7,none⟩=some (.int .u64 y4_)∧V.cell? ⟨w3.heap.size,8,none⟩=some (.int .u64 y5_)∧V.cell? ⟨w3.heap.size,9,none⟩=some (.int .u64 y6_)∧V.cell? ⟨w3.heap.size,10,none⟩=some (.int .u64 y7_)):=fun h1 h2=>⟨by simpa using h1.cell_ 0,by simpa using h1.cell_ 1,by simpa using h1.cell_ 2,by simpa using h2.cell_ 0,by simpa using h2.cell_ 1,by simpa using h2.cell_ 2,by simpa using h2.cell_ 3,by simpa using h2.cell_ 4,by simpa using h2.cell_ 5,by simpa using h2.cell_ 6,by simpa using h2.cell_ 7,by simpa using h2.cell_ 8,by simpa using h2.cell_ 9,by simpa using h2.cell_ 10⟩
    have hS:=hS_of kE kJ;refine wp_region_held_drew (S:=fun V=>V.cell? ⟨w2.heap.size,0,none⟩=some (.slice A1 n1 c1)∧V.cell? ⟨w2.heap.size,1,none⟩=some (.slice A5 n2 c5)∧V.cell? ⟨w2.heap.size,2,none⟩=some (.int .i64 k0.room)∧V.cell? ⟨w3.heap.size,0,none⟩=some (.bool yw)∧V.cell? ⟨w3.heap.size,1,none⟩=some (.int .i64 ys)∧V.cell? ⟨w3.heap.size,2,none⟩=some (.int .i64 yf)∧V.cell? ⟨w3.heap.size,3,none⟩=some (.int .u64 y0_)∧V.cell? ⟨w3.heap.size,4,none⟩=some (.int .u64 y1_)∧V.cell? ⟨w3.heap.size,5,none⟩=some (.int .u64 y2_)∧V.cell? ⟨w3.heap.size,6,none⟩=some (.int .u64 y3_)∧V.cell? ⟨w3.heap.size,7,none⟩=some (.int .u64 y4_)∧V.cell? ⟨w3.heap.size,8,none⟩=some (.int .u64 y5_)∧V.cell? ⟨w3.heap.size,9,none⟩=some (.int .u64 y6_)∧V.cell? ⟨w3.heap.size,10,none⟩=some (.int .u64 y7_)) (by kernel_rfl) ?_ (fun hHeld => ?_)
    ·(rw[hcv];exact hS)
    rw[hcv];clear hcv;refine zht 0 ?_;refine zht 1 ?_;refine zhr 2 (fun K hK => ?_)
    ·have ta0:cv.cell? ⟨w.heap.size+1,0,none⟩=some (.slice none 0 0):=by simpa using kA.cell_ 0
     obtain⟨-,ta1,ta2⟩:=zc3 kA;obtain⟨ga0,ga1,ga2,-⟩:=zf kA;have zkA:=kA.lt;go_simp;obtain⟨cx,hcx⟩:∃ V,setN cv (w.heap.size+1) 0 [.slice A1 n1 c1,.slice A5 n2 c5,.int .i64 k0.room]=V:=⟨_,rfl⟩;rw[show (World.setCell (World.setCell (World.setCell cv ⟨w.heap.size+1,0,none⟩ (.slice A1 n1 c1)) ⟨w.heap.size+1,1,none⟩ (.slice A5 n2 c5)) ⟨w.heap.size+1,2,none⟩ (.int .i64 k0.room))=cx from hcx];have hgv:cv.grownBy cx (some (w.heap.size+1)):=by rw[←hcx];exact grown_setN _ _ _ _
     replace kA:Blk cx (w.heap.size+1) 31 #[.slice A1 n1 c1,.slice A5 n2 c5,.int .i64 k0.room]:=by rw[←hcx];exact blk_setN kA _ rfl
     clear hcx ta0 ga0 ta1 ga1 ta2 ga2;replace kB:=kB.kept hgv (by simp);replace kE:=kE.kept hgv (by simp;omega);replace kJ:=kJ.kept hgv (by simp;omega);replace oA:=oA.grown hgv (by omega);replace oJ:=oJ.grown hgv (by omega);replace cb:=below_grownB cb hgv (by omega) (Nat.le_refl _);replace cs:w3.heap.size<cx.heap.size:=Nat.lt_of_lt_of_le cs hgv.size;replace hS:=hS_of kE kJ;clear hgv zkA;obtain⟨cv,rfl⟩:∃ V,V=cx:=⟨_,rfl⟩
     refine hK.out _ _ (by exact hS) fun hHeld => ?_
     clear hK K;(try simp only[Act.put,zy0,zy1,zy2]);refine zhr 3 (fun K hK => ?_)
     ·have tb0:cv.cell? ⟨w.heap.size+2,0,none⟩=some (.bool false):=by simpa using kB.cell_ 0
      obtain⟨-,tb1,tb2,tb3,tb4,tb5,tb6,tb7,tb8,tb9,tb10⟩:=zc11 kB;obtain⟨gb0,gb1,gb2,gb3,gb4,gb5,gb6,gb7,gb8,gb9,gb10,-⟩:=zf kB;have zkB:=kB.lt;go_simp;obtain⟨cx,hcx⟩:∃ V,setN cv (w.heap.size+2) 0 (zkj yw ys yf y0_ y1_ y2_ y3_ y4_ y5_ y6_ y7_)=V:=⟨_,rfl⟩;rw[zs11 hcx];have hgv:cv.grownBy cx (some (w.heap.size+2)):=by rw[←hcx];exact grown_setN _ _ _ _
      replace kB:Blk cx (w.heap.size+2) 115 (zkj yw ys yf y0_ y1_ y2_ y3_ y4_ y5_ y6_ y7_).toArray:=by rw[←hcx];exact blk_setN kB _ rfl
      clear hcx tb0 gb0 tb1 gb1 tb2 gb2 tb3 gb3 tb4 gb4 tb5 gb5 tb6 gb6 tb7 gb7 tb8 gb8 tb9 gb9 tb10 gb10;replace kA:=kA.kept hgv (by simp);replace kE:=kE.kept hgv (by simp;omega);replace kJ:=kJ.kept hgv (by simp;omega);replace oA:=oA.grown hgv (by omega);replace oJ:=oJ.grown hgv (by omega);replace cb:=below_grownB cb hgv (by omega) (Nat.le_refl _);replace cs:w3.heap.size<cx.heap.size:=Nat.lt_of_lt_of_le cs hgv.size;replace hS:=hS_of kE kJ;clear hgv zkB;obtain⟨cv,rfl⟩:∃ V,V=cx:=⟨_,rfl⟩
      refine hK.out _ _ (by exact hS) fun hHeld => ?_
      clear hK K;(try simp only[Act.put,zy0,zy1,zy2]);refine zht 4 ?_;refine wpAnyH_done (by kernel_rfl) ?_ _;go_wp2_with fail;obtain⟨rp0,rp1,rp2⟩:=zc3 kA;refine bodyPost_ret (by simp[results,Tryz.results137,go_sem,rp0,rp1,rp2,zc11 kB] <;> rfl) rfl ?_;exact⟨A1,c1,A5,c5,by simp only[dkV,HN1.out,HN2.out,HR1.out];rfl,oA.base_ (by omega),oJ.base_ (by omega),cb⟩
 ·have HE:Hid (cmpD k0 i=(.zero,.zero,z)):=by show _=_;unfold cmpD;rw[hz,if_pos z0]
  have zb:(z != 0)=true:=by simpa using z0
  rw[HE.out];clear hz z0;obtain⟨q0,q1,q2⟩:=zc3 kD;have zD:=kD.lt
  go_enter Tryz.func137,Tryz.ntmps137
  go_wp2_with fail;(try rw[hX]);clear q0 q1 q2 zD;refine (dCheck_any A B c d k0 X (HB.out.ext BX) (by omega) (by omega) HZ.out).mono ?_;rintro e1 w1 ⟨rfl,hb1⟩;have B1:=zbt BX hb1;replace kD:=kD.below_ hb1 kD.lt;replace kA:=kA.below_ hb1 kA.lt;replace kB:=kB.below_ hb1 kB.lt;have zD:=kD.lt;have zA:=kA.lt;have zB:=kB.lt;obtain⟨q0,q1,q2⟩:=zc3 kD;obtain⟨ta0,ta1,ta2⟩:=zc3 kA;obtain⟨ga0,ga1,ga2,-⟩:=zf kA;obtain⟨tb0,tb1,tb2,tb3,tb4,tb5,tb6,tb7,tb8,tb9,tb10⟩:=zc11 kB;obtain⟨gb0,gb1,gb2,gb3,gb4,gb5,gb6,gb7,gb8,gb9,gb10,-⟩:=zf kB;go_wp2_with fail;obtain⟨W9,hW9⟩:∃ V,setN (setN w1 (w.heap.size+1) 0 [.slice none 0 0,.slice none 0 0,.int .i64 0]) (w.heap.size+2) 0 (zkj false 0 0 0 0 0 0 0 0 0 0)=V:=⟨_,rfl⟩;rw[zu hW9];have kA9:Blk W9 (w.heap.size+1) 31 #[.slice none 0 0,.slice none 0 0,.int .i64 0]:=by rw[←hW9];exact(blk_setN kA _ rfl).kept (grown_setN _ _ _ _) (by simp)
  have kB9:Blk W9 (w.heap.size+2) 115 (zkj false 0 0 0 0 0 0 0 0 0 0).toArray:=by rw[←hW9];exact blk_setN (kB.kept (grown_setN _ _ _ _) (by simp)) _ rfl
  have b9:Below w.heap.size w W9:=by rw[←hW9];exact below_setN (below_setN B1 (by omega) _) (by omega) _
  clear hW9;obtain⟨rp0,rp1,rp2⟩:=zc3 kA9;refine bodyPost_ret (by simp[results,Tryz.results137,go_sem,rp0,rp1,rp2,zc11 kB9] <;> rfl) rfl ?_;exact⟨none,0,none,0,by rfl,OwnE.nil,OwnE.nil,b9⟩
theorem jobs_len{s:Swp}(h:OkS s):s.dk.jobs.length=s.wr.length+s.rd.length:=by
 have h1:=congrArg List.length h.mw;have h2:=congrArg List.length h.mr;unfold jvs vvs at h1 h2;simp only[List.length_map] at h1 h2
 have h3:∀ l:List Jb,(l.filter fun j=>j.wr == true).length+(l.filter fun j=>j.wr == false).length=l.length:=by
  intro l
  induction l with
  | nil=>rfl
  | cons j l ih=>cases hj:j.wr <;> simp[hj] at ih ⊢ <;> omega
 rw[←h1,←h2];exact(h3 s.dk.jobs).symm
theorem jvs_snoc{js:List Jb}{k:Nat}{j:Jb}(b:Bool)(hj:js[k]? = some j):jvs (js.take (k+1)) b=jvs (js.take k) b++if j.wr=b then [(j.slot,j.frame)] else []:=by
 rw[List.take_add_one,hj,jvs_app]
 congr 1
 cases h:j.wr <;> cases b <;> simp[jvs,h]
theorem vvs_snoc{vs:List Wr}{n:Nat}{v:Wr}(hv:vs[n]? = some v):vvs (vs.take (n+1))=vvs (vs.take n)++[(v.1,v.2.1)]:=by
 rw[List.take_add_one,hv,vvs_app];rfl
theorem mt_skip{js:List Jb}{b:Bool}{vs:List Wr}{k n:Nat}{j:Jb}(h:jvs (js.take k) b=vvs (vs.take n))(hj:js[k]? = some j)(hw:j.wr≠b):jvs (js.take (k+1)) b=vvs (vs.take n):=by
 rw[jvs_snoc b hj,if_neg hw,List.append_nil,h]
theorem mt_same{js:List Jb}{vs:List Wr}{k n:Nat}{j:Jb}{v:Wr}(h:jvs (js.take k) j.wr=vvs (vs.take n))(hj:js[k]? = some j)(hv:vs[n]? = some v)(he:decide ((j.slot,j.frame)=(v.1,v.2.1))=true):jvs (js.take (k+1)) j.wr=vvs (vs.take (n+1)):=by
 rw[jvs_snoc _ hj,if_pos rfl,vvs_snoc hv,h,of_decide_eq_true he]
theorem jvs_split(js:List Jb)(b:Bool)(k:Nat):jvs js b=jvs (js.take k) b++jvs (js.drop k) b:=by
 rw[←jvs_app,List.take_append_drop]
theorem vvs_len(vs:List Wr):(vvs vs).length=vs.length:=by unfold vvs;simp
theorem mt_at{js:List Jb}{vs:List Wr}{k n:Nat}{j:Jb}(h:jvs (js.take k) j.wr=vvs (vs.take n))(hn:n≤vs.length)(hj:js[k]? = some j):(jvs js j.wr)[n]? = some (j.slot,j.frame):=by
 rw[jvs_split js j.wr (k+1),jvs_snoc _ hj,if_pos rfl,h,List.append_assoc,List.getElem?_append_right (by rw[vvs_len,List.length_take];omega)];rw[vvs_len,List.length_take,Nat.min_eq_left hn];simp
theorem mt_diff{js:List Jb}{vs:List Wr}{k n:Nat}{j:Jb}{v:Wr}(h:jvs (js.take k) j.wr=vvs (vs.take n))(hj:js[k]? = some j)(hv:vs[n]? = some v)(he:decide ((j.slot,j.frame)=(v.1,v.2.1))=false):mtW js j.wr vs=false:=by
 obtain⟨hn,_⟩:=List.getElem?_eq_some_iff.1 hv
 refine Bool.eq_false_iff.2 fun e => ?_
 have h1:=mt_at h (by omega) hj;rw[mtW_iff.1 e] at h1;unfold vvs at h1;rw[List.getElem?_map,hv] at h1;injection h1 with h1
 simp only[decide_eq_false_iff_not] at he;exact he h1.symm
theorem mt_over{js:List Jb}{vs:List Wr}{k n:Nat}{j:Jb}(h:jvs (js.take k) j.wr=vvs (vs.take n))(hj:js[k]? = some j)(hn:vs.length≤n):mtW js j.wr vs=false:=by
 refine Bool.eq_false_iff.2 fun e => ?_
 have h1:=congrArg List.length (jvs_split js j.wr (k+1));rw[jvs_snoc _ hj,if_pos rfl,h,mtW_iff.1 e] at h1;simp[vvs_len] at h1;omega
theorem mt_end{js:List Jb}{b:Bool}{vs:List Wr}{n q:Nat}(h:jvs js b=vvs (vs.take n))(hq:vs.length=q)(hn:n≤q):mtW js b vs=((n:Int) == (q:Int)):=by
 by_cases e:n=q
 ·subst e
  rw[mtW_iff.2 (by rw[h,List.take_of_length_le (by omega)])];simp
 ·have hne:((n:Int) == (q:Int))=false:=by simp;omega
  rw[hne]
  refine Bool.eq_false_iff.2 fun e2 => ?_
  have h1:=congrArg List.length (mtW_iff.1 e2);rw[h,vvs_len,vvs_len,List.length_take] at h1;omega
theorem agW_any(j:Jb)(v:Wr)(w:World):Calls Tryz.prog 123 #[jbV j,.agg #[.int .i64 v.1,.int .i64 v.2.1,.int .i64 v.2.2]] w fun e w'=>e=.returned (.bool (decide ((j.slot,j.frame)=(v.1,v.2.1))))∧Below w.heap.size w w':=by
 obtain⟨jw,js,jf,⟨c0,c1_,c2_,c3,c4,c5_,c6,c7⟩⟩:=j;obtain⟨v0,v1,v2⟩:=v;show Calls _ _ #[.agg (zkj jw js jf c0 c1_ c2_ c3 c4 c5_ c6 c7).toArray,.agg #[.int .i64 v0,.int .i64 v1,.int .i64 v2]] _ _;have he:decide ((js,jf)=(v0,v1))=(decide (js=v0) && decide (jf=v1)):=by simp
 dsimp only;rw[he]
 by_cases h1:js=v0
 ·subst h1
  by_cases h2:jf=v1
  ·subst h2
   rw[show (decide (js=js) && decide (jf=jf))=true by simp]
   go_enter Tryz.func123,Tryz.ntmps123
   go_wp2_with fail;go_ret;exact⟨by simp,zbl⟩
  ·rw[show (decide (js=js) && decide (jf=v1))=false by simp[h2]]
   have h2b:(jf == v1)=false:=by simpa using h2
   go_enter Tryz.func123,Tryz.ntmps123
   go_wp2_with fail;go_ret;exact⟨by simp,zbl⟩
 ·rw[show (decide (js=v0) && decide (jf=v1))=false by simp[h1]]
  have h1b:(js == v0)=false:=by simpa using h1
  go_enter Tryz.func123,Tryz.ntmps123
  go_wp2_with fail;go_ret;exact⟨by simp,zbl⟩
theorem agR_any(j:Jb)(v:Wr)(w:World):Calls Tryz.prog 125 #[jbV j,.agg #[.int .i64 v.1,.int .i64 v.2.1,.int .i64 v.2.2]] w fun e w'=>e=.returned (.bool (decide ((j.slot,j.frame)=(v.1,v.2.1))))∧Below w.heap.size w w':=by
 obtain⟨jw,js,jf,⟨c0,c1_,c2_,c3,c4,c5_,c6,c7⟩⟩:=j;obtain⟨v0,v1,v2⟩:=v;show Calls _ _ #[.agg (zkj jw js jf c0 c1_ c2_ c3 c4 c5_ c6 c7).toArray,.agg #[.int .i64 v0,.int .i64 v1,.int .i64 v2]] _ _;have he:decide ((js,jf)=(v0,v1))=(decide (js=v0) && decide (jf=v1)):=by simp
 dsimp only;rw[he]
 by_cases h1:js=v0
 ·subst h1
  by_cases h2:jf=v1
  ·subst h2
   rw[show (decide (js=js) && decide (jf=jf))=true by simp]
   go_enter Tryz.func125,Tryz.ntmps125
   go_wp2_with fail;go_ret;exact⟨by simp,zbl⟩
  ·rw[show (decide (js=js) && decide (jf=v1))=false by simp[h2]]
   have h2b:(jf == v1)=false:=by simpa using h2
   go_enter Tryz.func125,Tryz.ntmps125
   go_wp2_with fail;go_ret;exact⟨by simp,zbl⟩
 ·rw[show (decide (js=v0) && decide (jf=v1))=false by simp[h1]]
  have h1b:(js == v0)=false:=by simpa using h1
  go_enter Tryz.func125,Tryz.ntmps125
  go_wp2_with fail;go_ret;exact⟨by simp,zbl⟩
theorem matchW_any(A B:Option Addr)(c d:Nat)(js:List Jb)(bb:Bool)(vs:List Wr)(w:World)(ha:SR jbE w A js)(hv:SR wrE w B vs)(la:js.length≤1000)(lv:vs.length≤1000) :
  Calls Tryz.prog 122 #[.slice A js.length c,.bool bb,.slice B vs.length d,.func (.func 123) #[] #[]] w fun e w'=>e=.returned (.bool (mtW js bb vs))∧Below w.heap.size w w':=by
 have HA:=Lib.hid ha;have HV:=Lib.hid hv;obtain⟨m,hm⟩:∃ m,js.length=m:=⟨_,rfl⟩;obtain⟨q,hq⟩:∃ q,vs.length=q:=⟨_,rfl⟩;obtain⟨R,hR⟩:∃ R,mtW js bb vs=R:=⟨_,rfl⟩;rw[hm,hq,hR];have la':m≤1000:=by omega
 have lv':q≤1000:=by omega
 have HM:=Lib.hid hm;have HQ:=Lib.hid hq;have HR:=Lib.hid hR;clear ha hv hm hq hR la lv
 go_enter Tryz.func122,Tryz.ntmps122
 go_wp2_with fail
 go_loopw [14,9] (fun i s wr=>∃ k n:Nat,k≤m∧n≤q∧i=.int .i64 k∧s=.int .i64 n∧Hid (jvs (js.take k) bb=vvs (vs.take n))∧Below w.heap.size w wr) (fun i _ _=>m - (intOf i).toNat)
 case atStart=>exact⟨0,0,by omega,by omega,rfl,rfl,(by show _=_;rfl),Below.refl _ _⟩
 case round=>
  obtain⟨k,n,hk,hn,rfl,rfl,HP,hb⟩:=hrel
  by_cases hlt:k<m
  ·have i1:(k:Int)<m:=by omega
   obtain⟨b,off,y,rfl,hbl,hx,hc⟩:=(HA.out.ext hb).at_ (k:=k) (by rw[HM.out];exact hlt);have HX:=Lib.hid hx;clear hx;obtain⟨jw,js_,jf,⟨c0,c1_,c2_,c3,c4,c5_,c6,c7⟩⟩:=y;have e0:wr.cell? ⟨b,off+k*11,none⟩=some (.bool jw):=hc 0 _ rfl;have e1:wr.cell? ⟨b,off+k*11+1,none⟩=some (.int .i64 js_):=hc 1 _ rfl;have e2:wr.cell? ⟨b,off+k*11+2,none⟩=some (.int .i64 jf):=hc 2 _ rfl;have e3:wr.cell? ⟨b,off+k*11+3,none⟩=some (.int .u64 c0):=hc 3 _ rfl;have e4:wr.cell? ⟨b,off+k*11+4,none⟩=some (.int .u64 c1_):=hc 4 _ rfl;have e5:wr.cell? ⟨b,off+k*11+5,none⟩=some (.int .u64 c2_):=hc 5 _ rfl;have e6:wr.cell? ⟨b,off+k*11+6,none⟩=some (.int .u64 c3):=hc 6 _ rfl;have e7:wr.cell? ⟨b,off+k*11+7,none⟩=some (.int .u64 c4):=hc 7 _ rfl;have e8:wr.cell? ⟨b,off+k*11+8,none⟩=some (.int .u64 c5_):=hc 8 _ rfl;have e9:wr.cell? ⟨b,off+k*11+9,none⟩=some (.int .u64 c6):=hc 9 _ rfl;have e10:wr.cell? ⟨b,off+k*11+10,none⟩=some (.int .u64 c7):=hc 10 _ rfl;obtain⟨V6,hV6⟩:∃ V6,wr.alloc (.cells (zkj jw js_ jf c0 c1_ c2_ c3 c4 c5_ c6 c7).toArray 115)=V6:=⟨_,rfl⟩;have kJ:=za hV6;have B6:=zab hV6;have zJ:=kJ.lt;obtain⟨j0,j1,j2,j3,j4,j5,j6,j7,j8,j9,j10⟩:=zc11 kJ
   cases hwb:(jw != bb)
   ·have hwe:jw=bb:=by simpa using hwb
    subst hwe
    by_cases hnq:n<q
    ·have hg:decide ((n:Int)≥(q:Int))=false:=by simp;omega
     have n1:(n:Int)<q:=by omega
     obtain⟨b2,off2,v,rfl,hbl2,hx2,hc2⟩:=(HV.out.ext hb).at_ (k:=n) (by rw[HQ.out];exact hnq);obtain⟨v0,v1,v2⟩:=v;have HX2:=Lib.hid hx2;clear hx2;have zY:b2<V6.heap.size:=Nat.lt_of_lt_of_le hbl2 B6.size;have y0:V6.cell? ⟨b2,off2+n*3,none⟩=some (.int .i64 v0):=cell_keep B6 (hc2 0 _ rfl) hbl2;have y1:V6.cell? ⟨b2,off2+n*3+1,none⟩=some (.int .i64 v1):=cell_keep B6 (hc2 1 _ rfl) hbl2;have y2:V6.cell? ⟨b2,off2+n*3+2,none⟩=some (.int .i64 v2):=cell_keep B6 (hc2 2 _ rfl) hbl2;have hS:V6.drew.cell? ⟨wr.heap.size,0,none⟩=some (.bool jw)∧V6.drew.cell? ⟨wr.heap.size,1,none⟩=some (.int .i64 js_)∧V6.drew.cell? ⟨wr.heap.size,2,none⟩=some (.int .i64 jf)∧V6.drew.cell? ⟨wr.heap.size,3,none⟩=some (.int .u64 c0)∧V6.drew.cell? ⟨wr.heap.size,4,none⟩=some (.int .u64 c1_)∧V6.drew.cell? ⟨wr.heap.size,5,none⟩=some (.int .u64 c2_)∧V6.drew.cell? ⟨wr.heap.size,6,none⟩=some (.int .u64 c3)∧V6.drew.cell? ⟨wr.heap.size,7,none⟩=some (.int .u64 c4)∧V6.drew.cell? ⟨wr.heap.size,8,none⟩=some (.int .u64 c5_)∧V6.drew.cell? ⟨wr.heap.size,9,none⟩=some (.int .u64 c6)∧V6.drew.cell? ⟨wr.heap.size,10,none⟩=some (.int .u64 c7)∧V6.drew.cell? ⟨b2,off2+n*3,none⟩=some (.int .i64 v0)∧V6.drew.cell? ⟨b2,off2+n*3+1,none⟩=some (.int .i64 v1)∧V6.drew.cell? ⟨b2,off2+n*3+2,none⟩=some (.int .i64 v2):=⟨j0,j1,j2,j3,j4,j5,j6,j7,j8,j9,j10,y0,y1,y2⟩;obtain⟨vv,hvv⟩:∃ b,decide ((js_,jf)=(v0,v1))=b:=⟨_,rfl⟩;have HVV:Hid (decide ((js_,jf)=(v0,v1))=vv):=hvv
     cases vv
     ·have HE:Hid (R=false):=by show _=_;rw[←HR.out];exact mt_diff HP.out HX.out HX2.out hvv
      clear hvv;go_wp2_with fail;(try rw[hV6]);clear hV6 e0 e1 e2 e3 e4 e5 e6 e7 e8 e9 e10 hc hc2;refine wp_region_held_drew (S:=fun V=>V.cell? ⟨wr.heap.size,0,none⟩=some (.bool jw)∧V.cell? ⟨wr.heap.size,1,none⟩=some (.int .i64 js_)∧V.cell? ⟨wr.heap.size,2,none⟩=some (.int .i64 jf)∧V.cell? ⟨wr.heap.size,3,none⟩=some (.int .u64 c0)∧V.cell? ⟨wr.heap.size,4,none⟩=some (.int .u64 c1_)∧V.cell? ⟨wr.heap.size,5,none⟩=some (.int .u64 c2_)∧V.cell? ⟨wr.heap.size,6,none⟩=some (.int .u64 c3)∧V.cell? ⟨wr.heap.size,7,none⟩=some (.int .u64 c4)∧V.cell? ⟨wr.heap.size,8,none⟩=some (.int .u64 c5_)∧V.cell? ⟨wr.heap.size,9,none⟩=some (.int .u64 c6)∧V.cell? ⟨wr.heap.size,10,none⟩=some (.int .u64 c7)∧V.cell? ⟨b2,off2+n*3,none⟩=some (.int .i64 v0)∧V.cell? ⟨b2,off2+n*3+1,none⟩=some (.int .i64 v1)∧V.cell? ⟨b2,off2+n*3+2,none⟩=some (.int .i64 v2)) (by kernel_rfl) ?_ (fun hHeld => ?_)
      ·exact hS
      refine zht 0 ?_;refine zht 1 ?_;refine zht 2 ?_;refine zhV 3 (.bool false) (fun w hSw => ?_) ?_
      ·(try dsimp only at hSw)
       go_simp
       first | done | (simp;omega)
      refine zht 4 ?_;refine zht 5 ?_;refine zht 6 ?_;refine zht 7 ?_;refine zht 8 ?_;refine zht 9 ?_;refine zht 10 ?_;refine zhr 11 (fun K hK => ?_);go_simp;refine (agW_any ⟨jw,js_,jf,⟨c0,c1_,c2_,c3,c4,c5_,c6,c7⟩⟩ (v0,v1,v2) V6.drew).mono ?_;rintro e7 w7 ⟨rfl,hb7⟩;have b7:Below V6.heap.size V6 w7:=((Below.refl _ _).drew).trans hb7;rw[HVV.out];have hS7:w7.cell? ⟨wr.heap.size,0,none⟩=some (.bool jw)∧w7.cell? ⟨wr.heap.size,1,none⟩=some (.int .i64 js_)∧w7.cell? ⟨wr.heap.size,2,none⟩=some (.int .i64 jf)∧w7.cell? ⟨wr.heap.size,3,none⟩=some (.int .u64 c0)∧w7.cell? ⟨wr.heap.size,4,none⟩=some (.int .u64 c1_)∧w7.cell? ⟨wr.heap.size,5,none⟩=some (.int .u64 c2_)∧w7.cell? ⟨wr.heap.size,6,none⟩=some (.int .u64 c3)∧w7.cell? ⟨wr.heap.size,7,none⟩=some (.int .u64 c4)∧w7.cell? ⟨wr.heap.size,8,none⟩=some (.int .u64 c5_)∧w7.cell? ⟨wr.heap.size,9,none⟩=some (.int .u64 c6)∧w7.cell? ⟨wr.heap.size,10,none⟩=some (.int .u64 c7)∧w7.cell? ⟨b2,off2+n*3,none⟩=some (.int .i64 v0)∧w7.cell? ⟨b2,off2+n*3+1,none⟩=some (.int .i64 v1)∧w7.cell? ⟨b2,off2+n*3+2,none⟩=some (.int .i64 v2):=⟨cell_keep b7 j0 zJ,cell_keep b7 j1 zJ,cell_keep b7 j2 zJ,cell_keep b7 j3 zJ,cell_keep b7 j4 zJ,cell_keep b7 j5 zJ,cell_keep b7 j6 zJ,cell_keep b7 j7 zJ,cell_keep b7 j8 zJ,cell_keep b7 j9 zJ,cell_keep b7 j10 zJ,cell_keep b7 y0 zY,cell_keep b7 y1 zY,cell_keep b7 y2 zY⟩;go_wp2_with fail
      refine hK.out _ _ (by exact hS7) fun hHeld => ?_
      clear hK K;(try simp only[Act.put,zy0,zy1,zy2]);refine zht 12 ?_;refine zht 13 ?_;refine wpAnyH_done (by kernel_rfl) ?_ _;go_wp2_with fail;go_ret;refine⟨?_,hb.trans ((B6.trans (b7.mono B6.size)).mono hb.size)⟩;rw[HE.out];rfl
     ·have HN:Hid (jvs (js.take (k+1)) jw=vvs (vs.take (n+1))):=mt_same HP.out HX.out HX2.out hvv
      clear hvv;go_wp2_with fail;(try rw[hV6]);clear hV6 e0 e1 e2 e3 e4 e5 e6 e7 e8 e9 e10 hc hc2;refine wp_region_held_drew (S:=fun V=>V.cell? ⟨wr.heap.size,0,none⟩=some (.bool jw)∧V.cell? ⟨wr.heap.size,1,none⟩=some (.int .i64 js_)∧V.cell? ⟨wr.heap.size,2,none⟩=some (.int .i64 jf)∧V.cell? ⟨wr.heap.size,3,none⟩=some (.int .u64 c0)∧V.cell? ⟨wr.heap.size,4,none⟩=some (.int .u64 c1_)∧V.cell? ⟨wr.heap.size,5,none⟩=some (.int .u64 c2_)∧V.cell? ⟨wr.heap.size,6,none⟩=some (.int .u64 c3)∧V.cell? ⟨wr.heap.size,7,none⟩=some (.int .u64 c4)∧V.cell? ⟨wr.heap.size,8,none⟩=some (.int .u64 c5_)∧V.cell? ⟨wr.heap.size,9,none⟩=some (.int .u64 c6)∧V.cell? ⟨wr.heap.size,10,none⟩=some (.int .u64 c7)∧V.cell? ⟨b2,off2+n*3,none⟩=some (.int .i64 v0)∧V.cell? ⟨b2,off2+n*3+1,none⟩=some (.int .i64 v1)∧V.cell? ⟨b2,off2+n*3+2,none⟩=some (.int .i64 v2)) (by kernel_rfl) ?_ (fun hHeld => ?_)
      ·exact hS
      refine zht 0 ?_;refine zht 1 ?_;refine zht 2 ?_;refine zhV 3 (.bool false) (fun w hSw => ?_) ?_
      ·(try dsimp only at hSw)
       go_simp
       first | done | (simp;omega)
      refine zht 4 ?_;refine zht 5 ?_;refine zht 6 ?_;refine zht 7 ?_;refine zht 8 ?_;refine zht 9 ?_;refine zht 10 ?_;refine zhr 11 (fun K hK => ?_);go_simp;refine (agW_any ⟨jw,js_,jf,⟨c0,c1_,c2_,c3,c4,c5_,c6,c7⟩⟩ (v0,v1,v2) V6.drew).mono ?_;rintro e7 w7 ⟨rfl,hb7⟩;have b7:Below V6.heap.size V6 w7:=((Below.refl _ _).drew).trans hb7;rw[HVV.out];have hS7:w7.cell? ⟨wr.heap.size,0,none⟩=some (.bool jw)∧w7.cell? ⟨wr.heap.size,1,none⟩=some (.int .i64 js_)∧w7.cell? ⟨wr.heap.size,2,none⟩=some (.int .i64 jf)∧w7.cell? ⟨wr.heap.size,3,none⟩=some (.int .u64 c0)∧w7.cell? ⟨wr.heap.size,4,none⟩=some (.int .u64 c1_)∧w7.cell? ⟨wr.heap.size,5,none⟩=some (.int .u64 c2_)∧w7.cell? ⟨wr.heap.size,6,none⟩=some (.int .u64 c3)∧w7.cell? ⟨wr.heap.size,7,none⟩=some (.int .u64 c4)∧w7.cell? ⟨wr.heap.size,8,none⟩=some (.int .u64 c5_)∧w7.cell? ⟨wr.heap.size,9,none⟩=some (.int .u64 c6)∧w7.cell? ⟨wr.heap.size,10,none⟩=some (.int .u64 c7)∧w7.cell? ⟨b2,off2+n*3,none⟩=some (.int .i64 v0)∧w7.cell? ⟨b2,off2+n*3+1,none⟩=some (.int .i64 v1)∧w7.cell? ⟨b2,off2+n*3+2,none⟩=some (.int .i64 v2):=⟨cell_keep b7 j0 zJ,cell_keep b7 j1 zJ,cell_keep b7 j2 zJ,cell_keep b7 j3 zJ,cell_keep b7 j4 zJ,cell_keep b7 j5 zJ,cell_keep b7 j6 zJ,cell_keep b7 j7 zJ,cell_keep b7 j8 zJ,cell_keep b7 j9 zJ,cell_keep b7 j10 zJ,cell_keep b7 y0 zY,cell_keep b7 y1 zY,cell_keep b7 y2 zY⟩;go_wp2_with fail
      refine hK.out _ _ (by exact hS7) fun hHeld => ?_
      clear hK K;(try simp only[Act.put,zy0,zy1,zy2]);refine zht 12 ?_;refine zht 13 ?_;refine wpAnyH_done (by kernel_rfl) ?_ _;go_wp2_with fail
      go_roundw
      case rel=>exact⟨k+1,n+1,by omega,by omega,by go_num,by go_num,HN,hb.trans ((B6.trans (b7.mono B6.size)).mono hb.size)⟩
      case measure=>simp[intOf];omega
    ·have hg:decide ((n:Int)≥(q:Int))=true:=by simp;omega
     have HE:Hid (R=false):=by show _=_;rw[←HR.out];exact mt_over HP.out HX.out (by rw[HQ.out];omega)
     go_wp2_with fail;(try rw[hV6]);clear hV6 e0 e1 e2 e3 e4 e5 e6 e7 e8 e9 e10 hc;refine wp_region_held_drew (S:=fun _=>True) (by kernel_rfl) ?_ (fun hHeld => ?_)
     ·trivial
     refine zht 0 ?_;refine zht 1 ?_;refine zht 2 ?_;refine zhV 3 (.bool true) (fun w hSw => ?_) ?_
     ·(try dsimp only at hSw)
      go_simp
      first | done | rfl | omega | (trace_state;fail)
     refine zht 4 ?_;refine zhu 5 ?_;refine zhu 6 ?_;refine zhu 7 ?_;refine zhu 8 ?_;refine zhu 9 ?_;refine zhu 10 ?_;refine zhu 11 ?_;refine zhu 12 ?_;refine zht 13 ?_;refine wpAnyH_done (by kernel_rfl) ?_ _;go_wp2_with fail;go_ret;refine⟨?_,hb.trans ((B6.drew).mono hb.size)⟩;rw[HE.out];rfl
   ·have HN:Hid (jvs (js.take (k+1)) bb=vvs (vs.take n)):=mt_skip HP.out HX.out (by simpa using hwb)
    have hwb0:jw≠bb:=by simpa using hwb
    clear hwb
    cases jw <;> cases bb <;> first
     | exact absurd rfl hwb0
     | (clear hwb0
        go_wp2_with fail
        (try rw[hV6])
        go_wp2_with fail
        go_roundw
        case rel=>exact⟨k+1,n,by omega,by omega,by go_num,by go_num,HN,hb.trans (B6.mono hb.size)⟩
        case measure=>simp[intOf];omega)
  ·obtain rfl:k=m:=by omega
   have hR2:R=((n:Int) == (q:Int)):=by
    rw[←HR.out];exact mt_end (by rw[←HM.out] at HP;simpa using HP.out) HQ.out hn
   subst hR2;go_wp2_with fail;go_ret;exact⟨rfl,hb⟩
theorem matchR_any(A B:Option Addr)(c d:Nat)(js:List Jb)(bb:Bool)(vs:List Wr)(w:World)(ha:SR jbE w A js)(hv:SR rdE w B vs)(la:js.length≤1000)(lv:vs.length≤1000) :
  Calls Tryz.prog 124 #[.slice A js.length c,.bool bb,.slice B vs.length d,.func (.func 125) #[] #[]] w fun e w'=>e=.returned (.bool (mtW js bb vs))∧Below w.heap.size w w':=by
 have HA:=Lib.hid ha;have HV:=Lib.hid hv;obtain⟨m,hm⟩:∃ m,js.length=m:=⟨_,rfl⟩;obtain⟨q,hq⟩:∃ q,vs.length=q:=⟨_,rfl⟩;obtain⟨R,hR⟩:∃ R,mtW js bb vs=R:=⟨_,rfl⟩;rw[hm,hq,hR];have la':m≤1000:=by omega
 have lv':q≤1000:=by omega
 have HM:=Lib.hid hm;have HQ:=Lib.hid hq;have HR:=Lib.hid hR;clear ha hv hm hq hR la lv
 go_enter Tryz.func124,Tryz.ntmps124
 go_wp2_with fail
 go_loopw [14,9] (fun i s wr=>∃ k n:Nat,k≤m∧n≤q∧i=.int .i64 k∧s=.int .i64 n∧Hid (jvs (js.take k) bb=vvs (vs.take n))∧Below w.heap.size w wr) (fun i _ _=>m - (intOf i).toNat)
 case atStart=>exact⟨0,0,by omega,by omega,rfl,rfl,(by show _=_;rfl),Below.refl _ _⟩
 case round=>
  obtain⟨k,n,hk,hn,rfl,rfl,HP,hb⟩:=hrel
  by_cases hlt:k<m
  ·have i1:(k:Int)<m:=by omega
   obtain⟨b,off,y,rfl,hbl,hx,hc⟩:=(HA.out.ext hb).at_ (k:=k) (by rw[HM.out];exact hlt);have HX:=Lib.hid hx;clear hx;obtain⟨jw,js_,jf,⟨c0,c1_,c2_,c3,c4,c5_,c6,c7⟩⟩:=y;have e0:wr.cell? ⟨b,off+k*11,none⟩=some (.bool jw):=hc 0 _ rfl;have e1:wr.cell? ⟨b,off+k*11+1,none⟩=some (.int .i64 js_):=hc 1 _ rfl;have e2:wr.cell? ⟨b,off+k*11+2,none⟩=some (.int .i64 jf):=hc 2 _ rfl;have e3:wr.cell? ⟨b,off+k*11+3,none⟩=some (.int .u64 c0):=hc 3 _ rfl;have e4:wr.cell? ⟨b,off+k*11+4,none⟩=some (.int .u64 c1_):=hc 4 _ rfl;have e5:wr.cell? ⟨b,off+k*11+5,none⟩=some (.int .u64 c2_):=hc 5 _ rfl;have e6:wr.cell? ⟨b,off+k*11+6,none⟩=some (.int .u64 c3):=hc 6 _ rfl;have e7:wr.cell? ⟨b,off+k*11+7,none⟩=some (.int .u64 c4):=hc 7 _ rfl;have e8:wr.cell? ⟨b,off+k*11+8,none⟩=some (.int .u64 c5_):=hc 8 _ rfl;have e9:wr.cell? ⟨b,off+k*11+9,none⟩=some (.int .u64 c6):=hc 9 _ rfl;have e10:wr.cell? ⟨b,off+k*11+10,none⟩=some (.int .u64 c7):=hc 10 _ rfl;obtain⟨V6,hV6⟩:∃ V6,wr.alloc (.cells (zkj jw js_ jf c0 c1_ c2_ c3 c4 c5_ c6 c7).toArray 115)=V6:=⟨_,rfl⟩;have kJ:=za hV6;have B6:=zab hV6;have zJ:=kJ.lt;obtain⟨j0,j1,j2,j3,j4,j5,j6,j7,j8,j9,j10⟩:=zc11 kJ
   cases hwb:(jw != bb)
   ·have hwe:jw=bb:=by simpa using hwb
    subst hwe
    by_cases hnq:n<q
    ·have hg:decide ((n:Int)≥(q:Int))=false:=by simp;omega
     have n1:(n:Int)<q:=by omega
     obtain⟨b2,off2,v,rfl,hbl2,hx2,hc2⟩:=(HV.out.ext hb).at_ (k:=n) (by rw[HQ.out];exact hnq);obtain⟨v0,v1,v2⟩:=v;have HX2:=Lib.hid hx2;clear hx2;have zY:b2<V6.heap.size:=Nat.lt_of_lt_of_le hbl2 B6.size;have y0:V6.cell? ⟨b2,off2+n*3,none⟩=some (.int .i64 v0):=cell_keep B6 (hc2 0 _ rfl) hbl2;have y1:V6.cell? ⟨b2,off2+n*3+1,none⟩=some (.int .i64 v1):=cell_keep B6 (hc2 1 _ rfl) hbl2;have y2:V6.cell? ⟨b2,off2+n*3+2,none⟩=some (.int .i64 v2):=cell_keep B6 (hc2 2 _ rfl) hbl2;have hS:V6.drew.cell? ⟨wr.heap.size,0,none⟩=some (.bool jw)∧V6.drew.cell? ⟨wr.heap.size,1,none⟩=some (.int .i64 js_)∧V6.drew.cell? ⟨wr.heap.size,2,none⟩=some (.int .i64 jf)∧V6.drew.cell? ⟨wr.heap.size,3,none⟩=some (.int .u64 c0)∧V6.drew.cell? ⟨wr.heap.size,4,none⟩=some (.int .u64 c1_)∧V6.drew.cell? ⟨wr.heap.size,5,none⟩=some (.int .u64 c2_)∧V6.drew.cell? ⟨wr.heap.size,6,none⟩=some (.int .u64 c3)∧V6.drew.cell? ⟨wr.heap.size,7,none⟩=some (.int .u64 c4)∧V6.drew.cell? ⟨wr.heap.size,8,none⟩=some (.int .u64 c5_)∧V6.drew.cell? ⟨wr.heap.size,9,none⟩=some (.int .u64 c6)∧V6.drew.cell? ⟨wr.heap.size,10,none⟩=some (.int .u64 c7)∧V6.drew.cell? ⟨b2,off2+n*3,none⟩=some (.int .i64 v0)∧V6.drew.cell? ⟨b2,off2+n*3+1,none⟩=some (.int .i64 v1)∧V6.drew.cell? ⟨b2,off2+n*3+2,none⟩=some (.int .i64 v2):=⟨j0,j1,j2,j3,j4,j5,j6,j7,j8,j9,j10,y0,y1,y2⟩;obtain⟨vv,hvv⟩:∃ b,decide ((js_,jf)=(v0,v1))=b:=⟨_,rfl⟩;have HVV:Hid (decide ((js_,jf)=(v0,v1))=vv):=hvv
     cases vv
     ·have HE:Hid (R=false):=by show _=_;rw[←HR.out];exact mt_diff HP.out HX.out HX2.out hvv
      clear hvv;go_wp2_with fail;(try rw[hV6]);clear hV6 e0 e1 e2 e3 e4 e5 e6 e7 e8 e9 e10 hc hc2;refine wp_region_held_drew (S:=fun V=>V.cell? ⟨wr.heap.size,0,none⟩=some (.bool jw)∧V.cell? ⟨wr.heap.size,1,none⟩=some (.int .i64 js_)∧V.cell? ⟨wr.heap.size,2,none⟩=some (.int .i64 jf)∧V.cell? ⟨wr.heap.size,3,none⟩=some (.int .u64 c0)∧V.cell? ⟨wr.heap.size,4,none⟩=some (.int .u64 c1_)∧V.cell? ⟨wr.heap.size,5,none⟩=some (.int .u64 c2_)∧V.cell? ⟨wr.heap.size,6,none⟩=some (.int .u64 c3)∧V.cell? ⟨wr.heap.size,7,none⟩=some (.int .u64 c4)∧V.cell? ⟨wr.heap.size,8,none⟩=some (.int .u64 c5_)∧V.cell? ⟨wr.heap.size,9,none⟩=some (.int .u64 c6)∧V.cell? ⟨wr.heap.size,10,none⟩=some (.int .u64 c7)∧V.cell? ⟨b2,off2+n*3,none⟩=some (.int .i64 v0)∧V.cell? ⟨b2,off2+n*3+1,none⟩=some (.int .i64 v1)∧V.cell? ⟨b2,off2+n*3+2,none⟩=some (.int .i64 v2)) (by kernel_rfl) ?_ (fun hHeld => ?_)
      ·exact hS
      refine zht 0 ?_;refine zht 1 ?_;refine zht 2 ?_;refine zhV 3 (.bool false) (fun w hSw => ?_) ?_
      ·(try dsimp only at hSw)
       go_simp
       first | done | (simp;omega)
      refine zht 4 ?_;refine zht 5 ?_;refine zht 6 ?_;refine zht 7 ?_;refine zht 8 ?_;refine zht 9 ?_;refine zht 10 ?_;refine zhr 11 (fun K hK => ?_);go_simp;refine (agR_any ⟨jw,js_,jf,⟨c0,c1_,c2_,c3,c4,c5_,c6,c7⟩⟩ (v0,v1,v2) V6.drew).mono ?_;rintro e7 w7 ⟨rfl,hb7⟩;have b7:Below V6.heap.size V6 w7:=((Below.refl _ _).drew).trans hb7;rw[HVV.out];have hS7:w7.cell? ⟨wr.heap.size,0,none⟩=some (.bool jw)∧w7.cell? ⟨wr.heap.size,1,none⟩=some (.int .i64 js_)∧w7.cell? ⟨wr.heap.size,2,none⟩=some (.int .i64 jf)∧w7.cell? ⟨wr.heap.size,3,none⟩=some (.int .u64 c0)∧w7.cell? ⟨wr.heap.size,4,none⟩=some (.int .u64 c1_)∧w7.cell? ⟨wr.heap.size,5,none⟩=some (.int .u64 c2_)∧w7.cell? ⟨wr.heap.size,6,none⟩=some (.int .u64 c3)∧w7.cell? ⟨wr.heap.size,7,none⟩=some (.int .u64 c4)∧w7.cell? ⟨wr.heap.size,8,none⟩=some (.int .u64 c5_)∧w7.cell? ⟨wr.heap.size,9,none⟩=some (.int .u64 c6)∧w7.cell? ⟨wr.heap.size,10,none⟩=some (.int .u64 c7)∧w7.cell? ⟨b2,off2+n*3,none⟩=some (.int .i64 v0)∧w7.cell? ⟨b2,off2+n*3+1,none⟩=some (.int .i64 v1)∧w7.cell? ⟨b2,off2+n*3+2,none⟩=some (.int .i64 v2):=⟨cell_keep b7 j0 zJ,cell_keep b7 j1 zJ,cell_keep b7 j2 zJ,cell_keep b7 j3 zJ,cell_keep b7 j4 zJ,cell_keep b7 j5 zJ,cell_keep b7 j6 zJ,cell_keep b7 j7 zJ,cell_keep b7 j8 zJ,cell_keep b7 j9 zJ,cell_keep b7 j10 zJ,cell_keep b7 y0 zY,cell_keep b7 y1 zY,cell_keep b7 y2 zY⟩;go_wp2_with fail
      refine hK.out _ _ (by exact hS7) fun hHeld => ?_
      clear hK K;(try simp only[Act.put,zy0,zy1,zy2]);refine zht 12 ?_;refine zht 13 ?_;refine wpAnyH_done (by kernel_rfl) ?_ _;go_wp2_with fail;go_ret;refine⟨?_,hb.trans ((B6.trans (b7.mono B6.size)).mono hb.size)⟩;rw[HE.out];rfl
     ·have HN:Hid (jvs (js.take (k+1)) jw=vvs (vs.take (n+1))):=mt_same HP.out HX.out HX2.out hvv
      clear hvv;go_wp2_with fail;(try rw[hV6]);clear hV6 e0 e1 e2 e3 e4 e5 e6 e7 e8 e9 e10 hc hc2;refine wp_region_held_drew (S:=fun V=>V.cell? ⟨wr.heap.size,0,none⟩=some (.bool jw)∧V.cell? ⟨wr.heap.size,1,none⟩=some (.int .i64 js_)∧V.cell? ⟨wr.heap.size,2,none⟩=some (.int .i64 jf)∧V.cell? ⟨wr.heap.size,3,none⟩=some (.int .u64 c0)∧V.cell? ⟨wr.heap.size,4,none⟩=some (.int .u64 c1_)∧V.cell? ⟨wr.heap.size,5,none⟩=some (.int .u64 c2_)∧V.cell? ⟨wr.heap.size,6,none⟩=some (.int .u64 c3)∧V.cell? ⟨wr.heap.size,7,none⟩=some (.int .u64 c4)∧V.cell? ⟨wr.heap.size,8,none⟩=some (.int .u64 c5_)∧V.cell? ⟨wr.heap.size,9,none⟩=some (.int .u64 c6)∧V.cell? ⟨wr.heap.size,10,none⟩=some (.int .u64 c7)∧V.cell? ⟨b2,off2+n*3,none⟩=some (.int .i64 v0)∧V.cell? ⟨b2,off2+n*3+1,none⟩=some (.int .i64 v1)∧V.cell? ⟨b2,off2+n*3+2,none⟩=some (.int .i64 v2)) (by kernel_rfl) ?_ (fun hHeld => ?_)
      ·exact hS
      refine zht 0 ?_;refine zht 1 ?_;refine zht 2 ?_;refine zhV 3 (.bool false) (fun w hSw => ?_) ?_
      ·(try dsimp only at hSw)
       go_simp
       first | done | (simp;omega)
      refine zht 4 ?_;refine zht 5 ?_;refine zht 6 ?_;refine zht 7 ?_;refine zht 8 ?_;refine zht 9 ?_;refine zht 10 ?_;refine zhr 11 (fun K hK => ?_);go_simp;refine (agR_any ⟨jw,js_,jf,⟨c0,c1_,c2_,c3,c4,c5_,c6,c7⟩⟩ (v0,v1,v2) V6.drew).mono ?_;rintro e7 w7 ⟨rfl,hb7⟩;have b7:Below V6.heap.size V6 w7:=((Below.refl _ _).drew).trans hb7;rw[HVV.out];have hS7:w7.cell? ⟨wr.heap.size,0,none⟩=some (.bool jw)∧w7.cell? ⟨wr.heap.size,1,none⟩=some (.int .i64 js_)∧w7.cell? ⟨wr.heap.size,2,none⟩=some (.int .i64 jf)∧w7.cell? ⟨wr.heap.size,3,none⟩=some (.int .u64 c0)∧w7.cell? ⟨wr.heap.size,4,none⟩=some (.int .u64 c1_)∧w7.cell? ⟨wr.heap.size,5,none⟩=some (.int .u64 c2_)∧w7.cell? ⟨wr.heap.size,6,none⟩=some (.int .u64 c3)∧w7.cell? ⟨wr.heap.size,7,none⟩=some (.int .u64 c4)∧w7.cell? ⟨wr.heap.size,8,none⟩=some (.int .u64 c5_)∧w7.cell? ⟨wr.heap.size,9,none⟩=some (.int .u64 c6)∧w7.cell? ⟨wr.heap.size,10,none⟩=some (.int .u64 c7)∧w7.cell? ⟨b2,off2+n*3,none⟩=some (.int .i64 v0)∧w7.cell? ⟨b2,off2+n*3+1,none⟩=some (.int .i64 v1)∧w7.cell? ⟨b2,off2+n*3+2,none⟩=some (.int .i64 v2):=⟨cell_keep b7 j0 zJ,cell_keep b7 j1 zJ,cell_keep b7 j2 zJ,cell_keep b7 j3 zJ,cell_keep b7 j4 zJ,cell_keep b7 j5 zJ,cell_keep b7 j6 zJ,cell_keep b7 j7 zJ,cell_keep b7 j8 zJ,cell_keep b7 j9 zJ,cell_keep b7 j10 zJ,cell_keep b7 y0 zY,cell_keep b7 y1 zY,cell_keep b7 y2 zY⟩;go_wp2_with fail
      refine hK.out _ _ (by exact hS7) fun hHeld => ?_
      clear hK K;(try simp only[Act.put,zy0,zy1,zy2]);refine zht 12 ?_;refine zht 13 ?_;refine wpAnyH_done (by kernel_rfl) ?_ _;go_wp2_with fail
      go_roundw
      case rel=>exact⟨k+1,n+1,by omega,by omega,by go_num,by go_num,HN,hb.trans ((B6.trans (b7.mono B6.size)).mono hb.size)⟩
      case measure=>simp[intOf];omega
    ·have hg:decide ((n:Int)≥(q:Int))=true:=by simp;omega
     have HE:Hid (R=false):=by show _=_;rw[←HR.out];exact mt_over HP.out HX.out (by rw[HQ.out];omega)
     go_wp2_with fail;(try rw[hV6]);clear hV6 e0 e1 e2 e3 e4 e5 e6 e7 e8 e9 e10 hc;refine wp_region_held_drew (S:=fun _=>True) (by kernel_rfl) ?_ (fun hHeld => ?_)
     ·trivial
     refine zht 0 ?_;refine zht 1 ?_;refine zht 2 ?_;refine zhV 3 (.bool true) (fun w hSw => ?_) ?_
     ·(try dsimp only at hSw)
      go_simp
      first | done | rfl | omega | (trace_state;fail)
     refine zht 4 ?_;refine zhu 5 ?_;refine zhu 6 ?_;refine zhu 7 ?_;refine zhu 8 ?_;refine zhu 9 ?_;refine zhu 10 ?_;refine zhu 11 ?_;refine zhu 12 ?_;refine zht 13 ?_;refine wpAnyH_done (by kernel_rfl) ?_ _;go_wp2_with fail;go_ret;refine⟨?_,hb.trans ((B6.drew).mono hb.size)⟩;rw[HE.out];rfl
   ·have HN:Hid (jvs (js.take (k+1)) bb=vvs (vs.take n)):=mt_skip HP.out HX.out (by simpa using hwb)
    have hwb0:jw≠bb:=by simpa using hwb
    clear hwb
    cases jw <;> cases bb <;> first
     | exact absurd rfl hwb0
     | (clear hwb0
        go_wp2_with fail
        (try rw[hV6])
        go_wp2_with fail
        go_roundw
        case rel=>exact⟨k+1,n,by omega,by omega,by go_num,by go_num,HN,hb.trans (B6.mono hb.size)⟩
        case measure=>simp[intOf];omega)
  ·obtain rfl:k=m:=by omega
   have hR2:R=((n:Int) == (q:Int)):=by
    rw[←HR.out];exact mt_end (by rw[←HM.out] at HP;simpa using HP.out) HQ.out hn
   subst hR2;go_wp2_with fail;go_ret;exact⟨rfl,hb⟩
end Go.Proofs.YthijbipidbjpfaaGreatDoor
