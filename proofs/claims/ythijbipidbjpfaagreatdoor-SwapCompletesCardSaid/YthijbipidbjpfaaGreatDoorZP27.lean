import Derived.Test.YthijbipidbjpfaaGreatDoorZP26
import Derived.Test.YthijbipidbjpfaaGreatDoorZP00
import Derived.Test.YthijbipidbjpfaaGreatDoorZP06
import Derived.Test.YthijbipidbjpfaaGreatDoorZP21
import Derived.Test.YthijbipidbjpfaaGreatDoorZP03
import Derived.Test.YthijbipidbjpfaaGreatDoorZP02
import Derived.Test.YthijbipidbjpfaaGreatDoorZP19
import Derived.Test.YthijbipidbjpfaaGreatDoorZP24
import Derived.Test.YthijbipidbjpfaaGreatDoorZP25
import Derived.Test.YthijbipidbjpfaaGreatDoorZP13
import Derived.Test.YthijbipidbjpfaaGreatDoorZP23
import Derived.Test.YthijbipidbjpfaaGreatDoorZP20
import Derived.Test.YthijbipidbjpfaaGreatDoorZP08
import Derived.Test.YthijbipidbjpfaaGreatDoorZP14
set_option linter.unusedSimpArgs false
set_option linter.unusedVariables false
set_option maxRecDepth 100000
set_option maxHeartbeats 8000000
namespace Go.Proofs.YthijbipidbjpfaaGreatDoor
open Go.RowKit Go.Maps
theorem rwCheck_any(L:Lay)(s:Swp)(w:World)(h:SwR w L s)(hf:Few s):Calls Tryz.prog 19 #[swV L s] w fun e w'=>e=.returned (.int .i64 (chkW s))∧Below w.heap.size w w':=by
 obtain⟨a0,c0,a1,c1,a2,c2,a3,c3,a4,c4,a5,c5,a6,c6,a7,c7⟩:=L;have HS:=Lib.hid h;have HF:=Lib.hid hf;obtain⟨R,hR⟩:∃ R,chkW s=R:=⟨_,rfl⟩;rw[hR];obtain⟨z,hz⟩:∃ z,prtE s=z:=⟨_,rfl⟩
 have hP:=fun W hw=>rwParts_any ⟨a0,c0,a1,c1,a2,c2,a3,c3,a4,c4,a5,c5,a6,c6,a7,c7⟩ s W hw hf
 rw[hz] at hP;have HP:=Lib.hid hP;have hRz:=chkW_prt s;rw[hR,hz] at hRz;have f3:=hf.f3;have f0:=hf.f0;clear h hf hP;unfold swV swC at HP ⊢;obtain⟨X,hX⟩:∃ X,w.alloc (.cells (zkx s a0 c0 a1 c1 a2 c2 a3 c3 a4 c4 a5 c5 a6 c6 a7 c7).toArray 35)=X:=⟨_,rfl⟩;have kX:Blk X w.heap.size 35 (zkx s a0 c0 a1 c1 a2 c2 a3 c3 a4 c4 a5 c5 a6 c6 a7 c7).toArray:=by rw[←hX];exact zbk
 have BX:Below w.heap.size w X:=by rw[←hX];exact zbl
 have zX:=kX.lt;obtain⟨q0,q1,q2,q3,q4,q5,q6,q7,q8,q9,q10⟩:=zc11 kX
 by_cases z0:z=0
 ·subst z0
  obtain⟨hoT,hoV,hoD,hoP⟩:=prt_ok hz;have HAG:=Lib.hid (agR_iff hoT hoV hoD)
  have HB3:Hid (¬ agW s=true→R=3):=fun h=>by rw[hRz,if_neg (by simp),if_neg h]
  have HG0:Hid (agW s=true→R=0):=fun h=>by rw[hRz,if_neg (by simp),if_pos h]
  have HT:=Lib.hid hoT;have HM:=Lib.hid (fun W hw=>rwMatched_any ⟨a0,c0,a1,c1,a2,c2,a3,c3,a4,c4,a5,c5,a6,c6,a7,c7⟩ s W hw HF.out);have HD:=Lib.hid (fun W hw=>rwDescribed_any ⟨a0,c0,a1,c1,a2,c2,a3,c3,a4,c4,a5,c5,a6,c6,a7,c7⟩ s W hw HF.out hoP);clear hoT hoV hoD hoP hz hRz hR;unfold swV swC at HM HD
  go_enter Tryz.func19,Tryz.ntmps19
  go_wp2_with fail;(try rw[hX]);clear hX;refine (HP.out X (HS.out.ext BX)).mono ?_;rintro e1 w1 ⟨rfl,hb1⟩;have B1:=BX.trans (hb1.mono BX.size);replace kX:=kX.below_ hb1 zX;clear q0 q1 q2 q3 q4 q5 q6 q7 q8 q9 q10 hb1 zX;have zX:=kX.lt;obtain⟨q0,q1,q2,q3,q4,q5,q6,q7,q8,q9,q10⟩:=zc11 kX
  cases c1':((s.sl.refs.length:Int) != s.dk.cells.length) with
  | true=>
   have HE:Hid (R=3):=HB3.out fun h=>by have:=(HAG.out.1 h).1.1;simp at c1';omega
   go_wp2_with fail;go_ret;exact⟨by rw[HE.out];rfl,B1⟩
  | false=>
   cases c2':(s.dk.room != s.po.size) with
   | true=>
    have HE:Hid (R=3):=HB3.out fun h=>by have:=(HAG.out.1 h).1.2.1;simp at c2';omega
    go_wp2_with fail;go_ret;exact⟨by rw[HE.out];rfl,B1⟩
   | false=>
    cases c3':decide ((s.wr.length:Int)>s.cap) with
    | true=>
     have HE:Hid (R=3):=HB3.out fun h=>by have:=(HAG.out.1 h).1.2.2;simp at c3';omega
     go_wp2_with fail;go_ret;exact⟨by rw[HE.out];rfl,B1⟩
    | false=>
     have HQ1:Hid (s.sl.refs.length=s.dk.cells.length∧s.dk.room=s.po.size∧(s.wr.length:Int)≤s.cap):=by simp at c1' c2' c3';exact⟨by omega,by omega,by omega⟩
     obtain⟨mg,hmg⟩:∃ b,mtG s.dk.jobs s.wr s.rd=b:=⟨_,rfl⟩;have hM:=HM.out w1 (HS.out.ext B1);rw[hmg] at hM;have HM1:=Lib.hid hM;have HMG:=Lib.hid hmg;clear hM hmg;go_wp2_with fail;refine HM1.out.mono ?_;rintro e2 w2 ⟨rfl,hb2⟩;have B2:=B1.trans (hb2.mono B1.size);replace kX:=kX.below_ hb2 zX;clear q0 q1 q2 q3 q4 q5 q6 q7 q8 q9 q10 hb2 zX HM1;have zX:=kX.lt;obtain⟨q0,q1,q2,q3,q4,q5,q6,q7,q8,q9,q10⟩:=zc11 kX
     cases mg with
     | false=>
      have HE:Hid (R=3):=HB3.out fun h=>by have:=(HAG.out.1 h).2.1;rw[HMG.out] at this;cases this
      go_wp2_with fail;go_ret;exact⟨by rw[HE.out];rfl,B2⟩
     | true=>
      obtain⟨dg,hdg⟩:∃ b,dscB s=b:=⟨_,rfl⟩;have hD:=HD.out w2 (HS.out.ext B2);rw[hdg] at hD;have HD1:=Lib.hid hD;have HDG:=Lib.hid hdg;clear hD hdg;go_wp2_with fail;refine HD1.out.mono ?_;rintro e3 w3 ⟨rfl,hb3⟩;have B3:=B2.trans (hb3.mono B2.size);replace kX:=kX.below_ hb3 zX;clear q0 q1 q2 q3 q4 q5 q6 q7 q8 q9 q10 hb3 zX HD1
      cases dg with
      | false=>
       have HE:Hid (R=3):=HB3.out fun h=>by have:=(HAG.out.1 h).2.2.1;have h2:=HDG.out;unfold dscB at h2;exact of_decide_eq_false h2 this
       go_wp2_with fail;go_ret;exact⟨by rw[HE.out];rfl,B3⟩
      | true=>
       have HDS:Hid (s.desc.length=s.dk.jobs.length∧(tknP s.po).length=s.desc.length∧∀ d ∈ tknP s.po,d ∈ s.desc):=by show _∧_;exact of_decide_eq_true HDG.out
       go_wp2_with fail;clear c1' c2' c3'
       go_loopw [4] (fun i wr=>∃ k:Nat,k≤s.rd.length∧i=.int .i64 k∧Hid (∀ v ∈ s.rd.take k,0≤v.2.2∧v.2.2≤8)∧Below w3.heap.size w3 wr) (fun i _=>s.rd.length - (intOf i).toNat)
       case atStart=>exact⟨0,by omega,rfl,fun x hx=>by simp at hx,Below.refl _ _⟩
       case round=>
        obtain⟨k,hk,rfl,HK,hbw⟩:=hrel;have b3:=B3.trans (hbw.mono B3.size);replace kX:=kX.below_ hbw kX.lt;have zX:=kX.lt;obtain⟨-,-,-,-,q4,-⟩:=zc11 kX
        by_cases hlt:k<s.rd.length
        ·have i1:(k:Int)<s.rd.length:=by omega
         obtain⟨b,off,x,rfl,hbl,hx,hc⟩:=(HS.out.r3.ext b3).at_ hlt;have e0:wr.cell? ⟨b,off+k*3+2,none⟩=some (.int .i64 x.2.2):=hc 2 _ rfl;have HX:=Lib.hid hx;have HIN:=Lib.hid (List.mem_of_getElem? hx);clear hc hx
         cases d1:decide (x.2.2<0) with
         | true=>
          have HE:Hid (R=3):=HB3.out fun h=>by have:=(HAG.out.1 h).2.2.2.1 x HIN.out;simp at d1;omega
          go_wp2_with fail;go_ret;exact⟨by rw[HE.out];rfl,b3⟩
         | false=>
          cases d2:decide (x.2.2>8) with
          | true=>
           have HE:Hid (R=3):=HB3.out fun h=>by have:=(HAG.out.1 h).2.2.2.1 x HIN.out;simp at d2;omega
           go_wp2_with fail;go_ret;exact⟨by rw[HE.out];rfl,b3⟩
          | false=>
           have HK2:Hid (∀ v ∈ s.rd.take (k+1),0≤v.2.2∧v.2.2≤8):=by
            show ∀ v ∈ _,_
            rw[List.take_add_one,HX.out];intro v hv
            rcases List.mem_append.1 hv with hv | hv
            ·exact HK.out v hv
            ·simp at hv d1 d2;rw[hv];omega
           go_wp2_with fail
           go_roundw
           case rel=>exact⟨k+1,by omega,by go_num,HK2.out,hbw⟩
           case measure=>simp[intOf];omega
        ·have HRD:Hid (∀ v ∈ s.rd,0≤v.2.2∧v.2.2≤8):=by have:=HK.out;rwa [List.take_of_length_le (by omega)] at this
         obtain⟨wo,rfl⟩:∃ wo,wo=wr:=⟨_,rfl⟩;go_wp2_with fail;clear q4 zX hbw HK
         go_loopw [5] (fun i wr=>∃ q:Nat,1≤q∧q≤9∧i=.int .i64 q∧Hid (∀ p:Int,1≤p→p<q→tmsL (s.wr++s.rd) p≤1)∧Below wo.heap.size wo wr) (fun i _=>9 - (intOf i).toNat)
         case atStart=>exact⟨1,by omega,by omega,rfl,fun p h1 h2=>by omega,Below.refl _ _⟩
         case round=>
          obtain⟨q,hq1,hq,rfl,HQ,hbw⟩:=hrel;have B4:=b3;have b3:=b3.trans (hbw.mono b3.size);replace kX:=kX.below_ hbw kX.lt;have zX:=kX.lt
          by_cases hlt2:q≤8
          ·have i2:(q:Int)≤8:=by omega
           obtain⟨q0,q1,q2,q3,q4,q5,q6,q7,q8,q9,q10⟩:=zc11 kX;obtain⟨m,hm⟩:∃ m:Nat,tmsL (s.wr++s.rd) q=m:=⟨_,rfl⟩;have hT:=rwTimes_any ⟨a0,c0,a1,c1,a2,c2,a3,c3,a4,c4,a5,c5,a6,c6,a7,c7⟩ s q wr (HS.out.ext b3) HF.out;rw[hm] at hT;have HT1:=Lib.hid hT;have HMM:=Lib.hid hm;clear hT hm;unfold swV swC at HT1;go_wp2_with fail;refine HT1.out.mono ?_;rintro e4 w4 ⟨rfl,hb4⟩
           cases d3:decide ((m:Int)>1) with
           | true=>
            have HE:Hid (R=3):=HB3.out fun h=>by have:=(HAG.out.1 h).2.2.2.2.1 q (by omega) (by omega);rw[HMM.out] at this;simp at d3;omega
            go_wp2_with fail;go_ret;exact⟨by rw[HE.out];rfl,b3.trans (hb4.mono b3.size)⟩
           | false=>
            have HQ2:Hid (∀ p:Int,1≤p→p<((q+1:Nat):Int)→tmsL (s.wr++s.rd) p≤1):=fun p h1 h2=>by
             by_cases e:p=q
             ·rw[e,HMM.out];simp at d3;omega
             ·exact HQ.out p h1 (by omega)
            go_wp2_with fail
            go_roundw
            case rel=>exact⟨q+1,by omega,by omega,by go_num,HQ2.out,hbw.trans (hb4.mono hbw.size)⟩
            case measure=>simp[intOf];omega
          ·have HTM:Hid (∀ p:Int,1≤p→p≤8→tmsL (s.wr++s.rd) p≤1):=fun p h1 h2=>HQ.out p h1 (by omega)
           have i2:¬ (q:Int)≤8:=by omega
           obtain⟨wu,rfl⟩:∃ wu,wu=wr:=⟨_,rfl⟩;go_wp2_with fail;clear hbw HQ zX B4;have B4:=b3;clear b3
           go_loopw [6] (fun i wr=>∃ k:Nat,k≤s.sl.refs.length∧i=.int .i64 k∧Hid (∀ j:Nat,j<k→bsyT s.sl j=decide (0≤jobI s.dk.jobs j)∧¬ (wtdL (s.wr++s.rd) j=true∧refT s.sl j=0))∧Below wu.heap.size wu wr) (fun i _=>s.sl.refs.length - (intOf i).toNat)
           case atStart=>exact⟨0,by omega,rfl,fun j hj=>by omega,Below.refl _ _⟩
           case round=>
            obtain⟨k,hk,rfl,HK,hbw⟩:=hrel;have b3:=B4.trans (hbw.mono B4.size);replace kX:=kX.below_ hbw kX.lt;have zX:=kX.lt;obtain⟨-,q1,-⟩:=zc11 kX
            by_cases hlt3:k<s.sl.refs.length
            ·have i3:(k:Int)<s.sl.refs.length:=by omega
             have i4:(k:Int)<s.sl.busy.length:=by have:=HT.out.blen;omega
             obtain⟨b0,o0,x0,hA0,zA,hx0,hc0⟩:=(HS.out.r0.ext b3).at_ hlt3;obtain⟨b1,o1,x1,hA1,zB,hx1,hc1⟩:=(HS.out.r1.ext b3).at_ (k:=k) (by have:=HT.out.blen;omega);dsimp only at hA0 hA1;subst hA0 hA1;have ca:wr.cell? ⟨b0,o0+k,none⟩=some (.int .i64 x0):=by simpa [show intE.sz=1 from rfl] using hc0 0 (.int .i64 x0) rfl
             have cb:wr.cell? ⟨b1,o1+k,none⟩=some (.bool x1):=by simpa [show boolE.sz=1 from rfl] using hc1 0 (.bool x1) rfl
             have HX0:Hid (refT s.sl k=x0):=by show _=_;unfold refT;rw[List.getD_eq_getElem?_getD,hx0];rfl
             have HX1:Hid (bsyT s.sl k=x1):=by show _=_;unfold bsyT;rw[List.getD_eq_getElem?_getD,hx1];rfl
             clear hx0 hx1 hc0 hc1;obtain⟨jv,hjv⟩:∃ j,jobI s.dk.jobs k=j:=⟨_,rfl⟩;obtain⟨wv,hwv⟩:∃ v,wtdL (s.wr++s.rd) k=v:=⟨_,rfl⟩
             have HJ:Hid (∀ V,Below wr.heap.size wr V→Calls Tryz.prog 68 #[.agg (zkx s (some ⟨b0,o0,none⟩) c0 (some ⟨b1,o1,none⟩) c1 a2 c2 a3 c3 a4 c4 a5 c5 a6 c6 a7 c7).toArray,.int .i64 k] V fun e w'=>e=.returned (.int .i64 jv)∧Below V.heap.size V w'):=by
              show ∀ V,_
              intro V hV;rw[←hjv];exact rwJob_any ⟨some ⟨b0,o0,none⟩,c0,some ⟨b1,o1,none⟩,c1,a2,c2,a3,c3,a4,c4,a5,c5,a6,c6,a7,c7⟩ s k V ((HS.out.ext b3).r6.ext hV) HF.out.f6
             have HW:Hid (∀ V,Below wr.heap.size wr V→Calls Tryz.prog 69 #[.agg (zkx s (some ⟨b0,o0,none⟩) c0 (some ⟨b1,o1,none⟩) c1 a2 c2 a3 c3 a4 c4 a5 c5 a6 c6 a7 c7).toArray,.int .i64 k] V fun e w'=>e=.returned (.bool wv)∧Below V.heap.size V w'):=by
              show ∀ V,_
              intro V hV;rw[←hwv];exact rwWaited_any ⟨some ⟨b0,o0,none⟩,c0,some ⟨b1,o1,none⟩,c1,a2,c2,a3,c3,a4,c4,a5,c5,a6,c6,a7,c7⟩ s k V ((HS.out.ext b3).ext hV) HF.out
             have HJV:=Lib.hid hjv;have HWV:=Lib.hid hwv;clear hjv hwv;obtain⟨g,hg⟩:∃ g,decide (jv≥0)=g:=⟨_,rfl⟩;have HGE:=Lib.hid hg;have hg2:decide (0≤jv)=g:=hg;obtain⟨ne,hne⟩:∃ b,(x1 != g)=b:=⟨_,rfl⟩;have HNE:=Lib.hid hne;go_wp2_with fail
             cases ne with
             | true=>
              have HE:Hid (R=3):=HB3.out fun h=>by
               have:=((HAG.out.1 h).2.2.2.2.2 k (by omega)).1;rw[HX1.out,HJV.out] at this;have h2:=HNE.out;rw[←HGE.out,this] at h2;simp at h2
              refine wp_region_chain [.is ?fca0,.is ?fca1,.is ?fca2,.is ?fca3,.is ?fca4,.is ?fca5,.is ?fca6,.is ?fca7,.is (.int .i64 jv),.is (.bool g),.is (.bool true),.is ?fca11,.is undef,.is undef,.is undef,.is undef,.is undef,.is undef,.is undef,.is undef,.is undef,.is undef,.is undef,.is undef,.is ?fca24] (by kernel_rfl) (by kernel_rfl) (by kernel_rfl) (lasts_is (lasts_is (lasts_is (lasts_is (lasts_is (lasts_is (lasts_is (lasts_is (lasts_is (lasts_is (lasts_is (lasts_is (lasts_is (lasts_is (lasts_is (lasts_is (lasts_is (lasts_is (lasts_is (lasts_is (lasts_is (lasts_is (lasts_is (lasts_is (lasts_is lasts_nil))))))))))))))))))))))))) (fun W0 hb0 hz0 => ?_)
              rotate_left 10
              have kW:=kX.below_ hb0 kX.lt;have zW:=kW.lt;have ca:=cell_keep hb0 ca zA;have cb:=cell_keep hb0 cb zB;have zA:b0<W0.heap.size:=Nat.lt_of_lt_of_le zA hb0.size;have zB:b1<W0.heap.size:=Nat.lt_of_lt_of_le zB hb0.size;obtain⟨p0,p1,p2,p3,p4,p5,p6,p7,p8,p9,p10⟩:=zc11 kW;refine zot ?_;refine zot ?_;refine zoT (fun w hbw hd => ?_) ?_
              ·have r2:=cell_keep hbw p2 zW
               exact zgs
              refine zot ?_;refine zot ?_;refine zoT (fun w hbw hd => ?_) ?_
              ·have rb:=cell_keep hbw cb zB
               exact zgs
              refine zoT (fun w hbw hd => ?_) ?_
              ·have r0:=cell_keep hbw p0 zW
               have r1:=cell_keep hbw p1 zW;have r2:=cell_keep hbw p2 zW;have r3:=cell_keep hbw p3 zW;have r4:=cell_keep hbw p4 zW;have r5:=cell_keep hbw p5 zW;have r6:=cell_keep hbw p6 zW;have r7:=cell_keep hbw p7 zW;have r8:=cell_keep hbw p8 zW;have r9:=cell_keep hbw p9 zW;have r10:=cell_keep hbw p10 zW;exact zgs
              refine zot ?_;refine chain_is ?sca8 ?rca8
              case sca8=>
               intro w hbw hd K Q' hK;clear hd;go_simp;refine (HJ.out w (hb0.trans (hbw.mono hb0.size))).mono ?_;rintro e y ⟨rfl,hy⟩;go_wp2_with fail;refine hK.out (.int .i64 jv) _ _ ?_ ?_ rfl
               ·(simp only[Act.put,zy0,zy1,zy2,List.nil_append,List.cons_append])
               ·exact zbm
              (try simp only[Act.put,zy0,zy1,zy2,List.nil_append,List.cons_append]);refine zot ?_;refine zoT (fun w hbw hd => ?_) ?_
              ·clear hd
               go_simp
               first | done | simpa using HNE.out
              refine zot ?_;refine zou ?_;refine zou ?_;refine zou ?_;refine zou ?_;refine zou ?_;refine zou ?_;refine zou ?_;refine zou ?_;refine zou ?_;refine zou ?_;refine zou ?_;refine zou ?_;refine zot ?_;refine chain_end (fun wz hbz hd => ?_);go_wp2_with fail;go_ret;exact⟨by rw[HE.out];rfl,b3.trans ((hb0.trans (hbz.mono hb0.size)).mono b3.size)⟩
             | false=>
              cases wv with
              | false=>
               have HK2:Hid (∀ j:Nat,j<k+1→bsyT s.sl j=decide (0≤jobI s.dk.jobs j)∧¬ (wtdL (s.wr++s.rd) j=true∧refT s.sl j=0)):=fun j hj=>by
                by_cases e:j=k
                ·rw[e,HX1.out,HJV.out,HWV.out]
                 exact⟨by have h2:=HNE.out;rw[←HGE.out] at h2;simpa using h2,fun h=>by cases h.1⟩
                ·exact HK.out j (by omega)
               refine wp_region_chain [.is ?fcb0,.is ?fcb1,.is ?fcb2,.is ?fcb3,.is ?fcb4,.is ?fcb5,.is ?fcb6,.is ?fcb7,.is (.int .i64 jv),.is (.bool g),.is (.bool false),.is ?fcb11,.is ?fcb12,.is ?fcb13,.is (.bool false),.is ?fcb15,.is undef,.is undef,.is undef,.is undef,.is undef,.is undef,.is undef,.is ?fcb23,.is ?fcb24] (by kernel_rfl) (by kernel_rfl) (by kernel_rfl) (lasts_is (lasts_is (lasts_is (lasts_is (lasts_is (lasts_is (lasts_is (lasts_is (lasts_is (lasts_is (lasts_is (lasts_is (lasts_is (lasts_is (lasts_is (lasts_is (lasts_is (lasts_is (lasts_is (lasts_is (lasts_is (lasts_is (lasts_is (lasts_is (lasts_is lasts_nil))))))))))))))))))))))))) (fun W0 hb0 hz0 => ?_)
               rotate_left 14
               have kW:=kX.below_ hb0 kX.lt;have zW:=kW.lt;have ca:=cell_keep hb0 ca zA;have cb:=cell_keep hb0 cb zB;have zA:b0<W0.heap.size:=Nat.lt_of_lt_of_le zA hb0.size;have zB:b1<W0.heap.size:=Nat.lt_of_lt_of_le zB hb0.size;obtain⟨p0,p1,p2,p3,p4,p5,p6,p7,p8,p9,p10⟩:=zc11 kW;refine zot ?_;refine zot ?_;refine zoT (fun w hbw hd => ?_) ?_
               ·have r2:=cell_keep hbw p2 zW
                exact zgs
               refine zot ?_;refine zot ?_;refine zoT (fun w hbw hd => ?_) ?_
               ·have rb:=cell_keep hbw cb zB
                exact zgs
               refine zoT (fun w hbw hd => ?_) ?_
               ·have r0:=cell_keep hbw p0 zW
                have r1:=cell_keep hbw p1 zW;have r2:=cell_keep hbw p2 zW;have r3:=cell_keep hbw p3 zW;have r4:=cell_keep hbw p4 zW;have r5:=cell_keep hbw p5 zW;have r6:=cell_keep hbw p6 zW;have r7:=cell_keep hbw p7 zW;have r8:=cell_keep hbw p8 zW;have r9:=cell_keep hbw p9 zW;have r10:=cell_keep hbw p10 zW;exact zgs
               refine zot ?_;refine chain_is ?scb8 ?rcb8
               case scb8=>
                intro w hbw hd K Q' hK;clear hd;go_simp;refine (HJ.out w (hb0.trans (hbw.mono hb0.size))).mono ?_;rintro e y ⟨rfl,hy⟩;go_wp2_with fail;refine hK.out (.int .i64 jv) _ _ ?_ ?_ rfl
                ·(simp only[Act.put,zy0,zy1,zy2,List.nil_append,List.cons_append])
                ·exact zbm
               (try simp only[Act.put,zy0,zy1,zy2,List.nil_append,List.cons_append]);refine zot ?_;refine zoT (fun w hbw hd => ?_) ?_
               ·clear hd
                go_simp
                first | done | simpa using HNE.out
               refine zot ?_;refine zoT (fun w hbw hd => ?_) ?_
               ·have r0:=cell_keep hbw p0 zW
                have r1:=cell_keep hbw p1 zW;have r2:=cell_keep hbw p2 zW;have r3:=cell_keep hbw p3 zW;have r4:=cell_keep hbw p4 zW;have r5:=cell_keep hbw p5 zW;have r6:=cell_keep hbw p6 zW;have r7:=cell_keep hbw p7 zW;have r8:=cell_keep hbw p8 zW;have r9:=cell_keep hbw p9 zW;have r10:=cell_keep hbw p10 zW;exact zgs
               refine zot ?_;refine chain_is ?scb14 ?rcb14
               case scb14=>
                intro w hbw hd K Q' hK;clear hd;go_simp;refine (HW.out w (hb0.trans (hbw.mono hb0.size))).mono ?_;rintro e y ⟨rfl,hy⟩;go_wp2_with fail;refine hK.out (.bool false) _ _ ?_ ?_ rfl
                ·(simp only[Act.put,zy0,zy1,zy2,List.nil_append,List.cons_append])
                ·exact zbm
               (try simp only[Act.put,zy0,zy1,zy2,List.nil_append,List.cons_append]);refine zot ?_;refine zou ?_;refine zou ?_;refine zou ?_;refine zou ?_;refine zou ?_;refine zou ?_;refine zou ?_;refine zot ?_;refine zot ?_;refine chain_end (fun wz hbz hd => ?_);go_wp2_with fail
               go_roundw
               case rel=>exact⟨k+1,by omega,by go_num,HK2.out,hbw.trans ((hb0.trans (hbz.mono hb0.size)).mono hbw.size)⟩
               case measure=>simp[intOf];omega
              | true=>
               cases z0':(x0 == 0) with
               | true=>
                have HE:Hid (R=3):=HB3.out fun h=>by
                 have:=((HAG.out.1 h).2.2.2.2.2 k (by omega)).2;rw[HWV.out,HX0.out] at this;exact this ⟨rfl,by simpa using z0'⟩
                refine wp_region_chain [.is ?fcc0,.is ?fcc1,.is ?fcc2,.is ?fcc3,.is ?fcc4,.is ?fcc5,.is ?fcc6,.is ?fcc7,.is (.int .i64 jv),.is (.bool g),.is (.bool false),.is ?fcc11,.is ?fcc12,.is ?fcc13,.is (.bool true),.is ?fcc15,.is ?fcc16,.is ?fcc17,.is ?fcc18,.is ?fcc19,.is ?fcc20,.is ?fcc21,.is (.bool true),.is ?fcc23,.is ?fcc24] (by kernel_rfl) (by kernel_rfl) (by kernel_rfl) (lasts_is (lasts_is (lasts_is (lasts_is (lasts_is (lasts_is (lasts_is (lasts_is (lasts_is (lasts_is (lasts_is (lasts_is (lasts_is (lasts_is (lasts_is (lasts_is (lasts_is (lasts_is (lasts_is (lasts_is (lasts_is (lasts_is (lasts_is (lasts_is (lasts_is lasts_nil))))))))))))))))))))))))) (fun W0 hb0 hz0 => ?_)
                rotate_left 20
                have kW:=kX.below_ hb0 kX.lt;have zW:=kW.lt;have ca:=cell_keep hb0 ca zA;have cb:=cell_keep hb0 cb zB;have zA:b0<W0.heap.size:=Nat.lt_of_lt_of_le zA hb0.size;have zB:b1<W0.heap.size:=Nat.lt_of_lt_of_le zB hb0.size;obtain⟨p0,p1,p2,p3,p4,p5,p6,p7,p8,p9,p10⟩:=zc11 kW;refine zot ?_;refine zot ?_;refine zoT (fun w hbw hd => ?_) ?_
                ·have r2:=cell_keep hbw p2 zW
                 exact zgs
                refine zot ?_;refine zot ?_;refine zoT (fun w hbw hd => ?_) ?_
                ·have rb:=cell_keep hbw cb zB
                 exact zgs
                refine zoT (fun w hbw hd => ?_) ?_
                ·have r0:=cell_keep hbw p0 zW
                 have r1:=cell_keep hbw p1 zW;have r2:=cell_keep hbw p2 zW;have r3:=cell_keep hbw p3 zW;have r4:=cell_keep hbw p4 zW;have r5:=cell_keep hbw p5 zW;have r6:=cell_keep hbw p6 zW;have r7:=cell_keep hbw p7 zW;have r8:=cell_keep hbw p8 zW;have r9:=cell_keep hbw p9 zW;have r10:=cell_keep hbw p10 zW;exact zgs
                refine zot ?_;refine chain_is ?scc8 ?rcc8
                case scc8=>
                 intro w hbw hd K Q' hK;clear hd;go_simp;refine (HJ.out w (hb0.trans (hbw.mono hb0.size))).mono ?_;rintro e y ⟨rfl,hy⟩;go_wp2_with fail;refine hK.out (.int .i64 jv) _ _ ?_ ?_ rfl
                 ·(simp only[Act.put,zy0,zy1,zy2,List.nil_append,List.cons_append])
                 ·exact zbm
                (try simp only[Act.put,zy0,zy1,zy2,List.nil_append,List.cons_append]);refine zot ?_;refine zoT (fun w hbw hd => ?_) ?_
                ·clear hd
                 go_simp
                 first | done | simpa using HNE.out
                refine zot ?_;refine zoT (fun w hbw hd => ?_) ?_
                ·have r0:=cell_keep hbw p0 zW
                 have r1:=cell_keep hbw p1 zW;have r2:=cell_keep hbw p2 zW;have r3:=cell_keep hbw p3 zW;have r4:=cell_keep hbw p4 zW;have r5:=cell_keep hbw p5 zW;have r6:=cell_keep hbw p6 zW;have r7:=cell_keep hbw p7 zW;have r8:=cell_keep hbw p8 zW;have r9:=cell_keep hbw p9 zW;have r10:=cell_keep hbw p10 zW;exact zgs
                refine zot ?_;refine chain_is ?scc14 ?rcc14
                case scc14=>
                 intro w hbw hd K Q' hK;clear hd;go_simp;refine (HW.out w (hb0.trans (hbw.mono hb0.size))).mono ?_;rintro e y ⟨rfl,hy⟩;go_wp2_with fail;refine hK.out (.bool true) _ _ ?_ ?_ rfl
                 ·(simp only[Act.put,zy0,zy1,zy2,List.nil_append,List.cons_append])
                 ·exact zbm
                (try simp only[Act.put,zy0,zy1,zy2,List.nil_append,List.cons_append]);refine zot ?_;refine zot ?_;refine zot ?_;refine zoT (fun w hbw hd => ?_) ?_
                ·have r1:=cell_keep hbw p1 zW
                 exact zgs
                refine zot ?_;refine zot ?_;refine zoT (fun w hbw hd => ?_) ?_
                ·have ra:=cell_keep hbw ca zA
                 exact zgs
                refine zot ?_;refine zot ?_;refine zot ?_;refine chain_end (fun wz hbz hd => ?_);go_wp2_with fail;go_ret;exact⟨by rw[HE.out];rfl,b3.trans ((hb0.trans (hbz.mono hb0.size)).mono b3.size)⟩
               | false=>
                have HK2:Hid (∀ j:Nat,j<k+1→bsyT s.sl j=decide (0≤jobI s.dk.jobs j)∧¬ (wtdL (s.wr++s.rd) j=true∧refT s.sl j=0)):=fun j hj=>by
                 by_cases e:j=k
                 ·rw[e,HX1.out,HJV.out,HWV.out,HX0.out]
                  exact⟨by have h2:=HNE.out;rw[←HGE.out] at h2;simpa using h2,fun h=>by have:=h.2;simp[this] at z0'⟩
                 ·exact HK.out j (by omega)
                refine wp_region_chain [.is ?fcd0,.is ?fcd1,.is ?fcd2,.is ?fcd3,.is ?fcd4,.is ?fcd5,.is ?fcd6,.is ?fcd7,.is (.int .i64 jv),.is (.bool g),.is (.bool false),.is ?fcd11,.is ?fcd12,.is ?fcd13,.is (.bool true),.is ?fcd15,.is ?fcd16,.is ?fcd17,.is ?fcd18,.is ?fcd19,.is ?fcd20,.is ?fcd21,.is (.bool false),.is ?fcd23,.is ?fcd24] (by kernel_rfl) (by kernel_rfl) (by kernel_rfl) (lasts_is (lasts_is (lasts_is (lasts_is (lasts_is (lasts_is (lasts_is (lasts_is (lasts_is (lasts_is (lasts_is (lasts_is (lasts_is (lasts_is (lasts_is (lasts_is (lasts_is (lasts_is (lasts_is (lasts_is (lasts_is (lasts_is (lasts_is (lasts_is (lasts_is lasts_nil))))))))))))))))))))))))) (fun W0 hb0 hz0 => ?_)
                rotate_left 20
                have kW:=kX.below_ hb0 kX.lt;have zW:=kW.lt;have ca:=cell_keep hb0 ca zA;have cb:=cell_keep hb0 cb zB;have zA:b0<W0.heap.size:=Nat.lt_of_lt_of_le zA hb0.size;have zB:b1<W0.heap.size:=Nat.lt_of_lt_of_le zB hb0.size;obtain⟨p0,p1,p2,p3,p4,p5,p6,p7,p8,p9,p10⟩:=zc11 kW;refine zot ?_;refine zot ?_;refine zoT (fun w hbw hd => ?_) ?_
                ·have r2:=cell_keep hbw p2 zW
                 exact zgs
                refine zot ?_;refine zot ?_;refine zoT (fun w hbw hd => ?_) ?_
                ·have rb:=cell_keep hbw cb zB
                 exact zgs
                refine zoT (fun w hbw hd => ?_) ?_
                ·have r0:=cell_keep hbw p0 zW
                 have r1:=cell_keep hbw p1 zW;have r2:=cell_keep hbw p2 zW;have r3:=cell_keep hbw p3 zW;have r4:=cell_keep hbw p4 zW;have r5:=cell_keep hbw p5 zW;have r6:=cell_keep hbw p6 zW;have r7:=cell_keep hbw p7 zW;have r8:=cell_keep hbw p8 zW;have r9:=cell_keep hbw p9 zW;have r10:=cell_keep hbw p10 zW;exact zgs
                refine zot ?_;refine chain_is ?scd8 ?rcd8
                case scd8=>
                 intro w hbw hd K Q' hK;clear hd;go_simp;refine (HJ.out w (hb0.trans (hbw.mono hb0.size))).mono ?_;rintro e y ⟨rfl,hy⟩;go_wp2_with fail;refine hK.out (.int .i64 jv) _ _ ?_ ?_ rfl
                 ·(simp only[Act.put,zy0,zy1,zy2,List.nil_append,List.cons_append])
                 ·exact zbm
                (try simp only[Act.put,zy0,zy1,zy2,List.nil_append,List.cons_append]);refine zot ?_;refine zoT (fun w hbw hd => ?_) ?_
                ·clear hd
                 go_simp
                 first | done | simpa using HNE.out
                refine zot ?_;refine zoT (fun w hbw hd => ?_) ?_
                ·have r0:=cell_keep hbw p0 zW
                 have r1:=cell_keep hbw p1 zW;have r2:=cell_keep hbw p2 zW;have r3:=cell_keep hbw p3 zW;have r4:=cell_keep hbw p4 zW;have r5:=cell_keep hbw p5 zW;have r6:=cell_keep hbw p6 zW;have r7:=cell_keep hbw p7 zW;have r8:=cell_keep hbw p8 zW;have r9:=cell_keep hbw p9 zW;have r10:=cell_keep hbw p10 zW;exact zgs
                refine zot ?_;refine chain_is ?scd14 ?rcd14
                case scd14=>
                 intro w hbw hd K Q' hK;clear hd;go_simp;refine (HW.out w (hb0.trans (hbw.mono hb0.size))).mono ?_;rintro e y ⟨rfl,hy⟩;go_wp2_with fail;refine hK.out (.bool true) _ _ ?_ ?_ rfl
                 ·(simp only[Act.put,zy0,zy1,zy2,List.nil_append,List.cons_append])
                 ·exact zbm
                (try simp only[Act.put,zy0,zy1,zy2,List.nil_append,List.cons_append]);refine zot ?_;refine zot ?_;refine zot ?_;refine zoT (fun w hbw hd => ?_) ?_
                ·have r1:=cell_keep hbw p1 zW
                 exact zgs
                refine zot ?_;refine zot ?_;refine zoT (fun w hbw hd => ?_) ?_
                ·have ra:=cell_keep hbw ca zA
                 exact zgs
                refine zot ?_;refine zot ?_;refine zot ?_;refine chain_end (fun wz hbz hd => ?_);go_wp2_with fail
                go_roundw
                case rel=>exact⟨k+1,by omega,by go_num,HK2.out,hbw.trans ((hb0.trans (hbz.mono hb0.size)).mono hbw.size)⟩
                case measure=>simp[intOf];omega
            ·have HE:Hid (R=0):=HG0.out (HAG.out.2 ⟨HQ1.out,HMG.out,HDS.out,HRD.out,HTM.out,fun j hj=>HK.out j (by omega)⟩)
             go_wp2_with fail;go_ret;exact⟨by rw[HE.out];rfl,b3⟩
 ·have HE:Hid (R=z):=by show _=_;rw[hRz,if_pos z0]
  have zb:(z != 0)=true:=by simpa using z0
  clear z0 hz hRz hR
  go_enter Tryz.func19,Tryz.ntmps19
  go_wp2_with fail;(try rw[hX]);clear hX;refine (HP.out X (HS.out.ext BX)).mono ?_;rintro e1 w1 ⟨rfl,hb1⟩;go_wp2_with fail;go_ret;exact⟨by rw[HE.out];rfl,BX.trans (hb1.mono BX.size)⟩
theorem okW_two(s f:Int):okW (s,f,0)=true↔(0≤s∧s<256)∧(0≤f∧f<256):=by rw[okW_iff];simp
theorem fnd_ask{l:List Wr}{s z:Int}(h:askS l s 0 1=z)(hz:z≠0):findS l s=(0,z):=by
 unfold askS at h;unfold findS
 by_cases h0:(chkS l).1≠0
 ·rw[if_pos h0] at h
  rw[if_pos h0,h]
 ·rw[if_neg h0] at h
  rw[if_neg h0]
  by_cases h1:0≤s∧s<256
  ·rw[if_pos ⟨(okW_two s 0).2 ⟨h1,by decide⟩,by decide⟩] at h
   exact absurd h.symm hz
  ·rw[if_neg (fun h=>h1 ((okW_two s 0).1 h.1).1)] at h
   rw[if_neg h1,h]
theorem fnd_go{l:List Wr}{s:Int}(h:askS l s 0 1=0):findS l s=(match l.findIdx? (fun x=>decide (x.1=s)) with | none=>(0,6) | some i=>(i,0)):=by
 unfold askS at h;unfold findS
 by_cases h0:(chkS l).1≠0
 ·rw[if_pos h0] at h
  exact absurd h h0
 ·rw[if_neg h0] at h
  by_cases h1:0≤s∧s<256
  ·rw[if_neg h0,if_pos h1]
   cases l.findIdx? (fun x=>decide (x.1=s)) <;> rfl
  ·rw[if_neg (fun h=>h1 ((okW_two s 0).1 h.1).1)] at h
   cases h
theorem RFind_any(A:Option Addr)(c:Nat)(l:List Wr)(s:Int)(w:World)(ha:SW w A l)(la:l.length≤1000){n:Nat}{z:Int}(h:findS l s=(n,z)) :
  Calls Tryz.prog 96 #[.slice A l.length c,.int .i64 s] w fun e w'=>e=.returned (.tuple #[.int .i64 n,.int .i64 z])∧Below w.heap.size w w':=by
 have HA:=Lib.hid ha;clear ha;obtain⟨y,hy⟩:∃ y,askS l s 0 1=y:=⟨_,rfl⟩
 by_cases h0:y=0
 ·subst h0
  have hf:=fnd_go hy;rw[h] at hf;have HY:=Lib.hid hy;clear hy
  cases hi:l.findIdx? (fun x=>decide (x.1=s)) with
  | none=>
   rw[hi] at hf;obtain⟨rfl,rfl⟩:=Prod.mk.inj hf;have HR:Hid (rfnS l s = -1):=by show _=_;unfold rfnS;rw[hi]
   clear hf h hi
   go_enter Tryz.func96,Tryz.ntmps96
   go_wp2_with (first | (go_at_call 116;with_reducible refine (asks_any _ _ _ _ _ _ _ HA.out la HY.out).mono ?_;rintro e w1 ⟨rfl,hb1⟩) | (go_at_call 154;with_reducible refine (rfind_any _ _ _ _ _ (HA.out.ext hb1) la).mono ?_;rw[HR.out];rintro e w2 ⟨rfl,hb2⟩))
   refine bodyPost_ret (by simp[results,Tryz.results96,go_sem] <;> rfl) rfl ?_;exact⟨rfl,zbl⟩
  | some k=>
   rw[hi] at hf;obtain⟨rfl,rfl⟩:=Prod.mk.inj hf;have HR:Hid (rfnS l s=(n:Int)):=by show _=_;unfold rfnS;rw[hi]
   clear hf h hi
   go_enter Tryz.func96,Tryz.ntmps96
   go_wp2_with (first | (go_at_call 116;with_reducible refine (asks_any _ _ _ _ _ _ _ HA.out la HY.out).mono ?_;rintro e w1 ⟨rfl,hb1⟩) | (go_at_call 154;with_reducible refine (rfind_any _ _ _ _ _ (HA.out.ext hb1) la).mono ?_;rw[HR.out];rintro e w2 ⟨rfl,hb2⟩))
   refine bodyPost_ret (by simp[results,Tryz.results96,go_sem] <;> rfl) rfl ?_;exact⟨rfl,zbl⟩
 ·have hf:=fnd_ask hy h0
  rw[h] at hf;obtain⟨rfl,rfl⟩:=Prod.mk.inj hf;have hyb:(z != 0)=true:=by simpa using h0
  have HY:=Lib.hid hy;clear hf h hy
  go_enter Tryz.func96,Tryz.ntmps96
  go_wp2_with (first | (go_at_call 116;with_reducible refine (asks_any _ _ _ _ _ _ _ HA.out la HY.out).mono ?_;rintro e w1 ⟨rfl,hb1⟩))
  refine bodyPost_ret (by simp[results,Tryz.results96,go_sem] <;> rfl) rfl ?_;exact⟨rfl,zbl⟩
theorem SwO.farO{w:World}{base b o:Nat}{L:Lay}{s:Swp}{cs:Array Value}(h:SwO w base L s)(hb:Blk w b 35 cs)(vs:List Value):SwO (setN w b o vs) base L s:=
 ⟨h.o0.farBN vs hb (by decide),h.o1.farBN vs hb (by decide),h.o2.lift fun o=>o.farBN vs hb (by decide),h.o3.farBN vs hb (by decide),h.o4.farBN vs hb (by decide),h.o5.farBN vs hb (by decide),h.o6.farBN vs hb (by decide),h.o7.farBN vs hb (by decide),h.p0,h.p7⟩
def SwPo(R:Swp)(z:List Value)(w:World)(e:Ending)(w':World):Prop:=∃ L,e=.returned (.tuple (swV L R::z).toArray)∧SwO w' 0 L R∧Below w.heap.size w w'
theorem any_wtd(s:Swp)(n:Int):((wtW s).any fun x=>decide (x.2=n))=wtdL (s.wr++s.rd) n:=by
 unfold wtW wtdL;rw[List.any_map,List.any_filter]
 congr 1
 funext v
 simp[Bool.and_comm]
theorem rwRef_any(L:Lay)(s:Swp)(n:Int)(w:World)(h:SwR w L s)(hf:Few s) :
  Calls Tryz.prog 27 #[swV L s,.int .i64 n] w (SwPo (addW s n).1 [.int .i64 (addW s n).2] w):=by
 obtain⟨a0,c0,a1,c1,a2,c2,a3,c3,a4,c4,a5,c5,a6,c6,a7,c7⟩:=L;obtain⟨Q,hQ⟩:∃ Q,addW s n=Q:=⟨_,rfl⟩;rw[hQ];have HQ:=Lib.hid hQ;clear hQ;have HA:=Lib.hid h;have HFW:=Lib.hid hf;clear h hf;unfold swV swC;obtain⟨X,hX⟩:∃ X,(w.alloc (.cells (zkx s a0 c0 a1 c1 a2 c2 a3 c3 a4 c4 a5 c5 a6 c6 a7 c7).toArray 35)).alloc (.cells zkz.toArray 35)=X:=⟨_,rfl⟩;have kX:=za1 hX;have kR:=za2 hX;have BX:Below w.heap.size w X:=by rw[←hX];exact zbl
 obtain⟨z,hzz⟩:∃ z,chkW s=z:=⟨_,rfl⟩;have HZZ:=Lib.hid hzz;have hC:=rwCheck_any ⟨a0,c0,a1,c1,a2,c2,a3,c3,a4,c4,a5,c5,a6,c6,a7,c7⟩ s X (HA.out.ext BX) HFW.out;rw[hzz] at hC;have HC:=Lib.hid hC;clear hC hzz;have zkX:=kX.lt;obtain⟨q0,q1,q2,q3,q4,q5,q6,q7,q8,q9,q10⟩:=zc11 kX
 go_enter Tryz.func27,Tryz.ntmps27
 go_wp2_with fail;(try rw[hX]);clear hX;refine HC.out.mono ?_;rintro e1 w1 ⟨rfl,hb1⟩;have B1:=zbt BX hb1;replace kX:=kX.below_ hb1 kX.lt;replace kR:=kR.below_ hb1 kR.lt;clear hb1;clear zkX q0 q1 q2 q3 q4 q5 q6 q7 q8 q9 q10
 by_cases z0:z=0
 ·subst z0
  have HOK:Hid (OkS s):=chkW_ok.1 HZZ.out;obtain⟨⟨T,er⟩,hT⟩:∃ q,addT s.sl n=q:=⟨_,rfl⟩;have HT:=Lib.hid hT
  have HQ2:Hid (Q=if er≠0 then (.zero,er) else ({ s with sl:=T },0)):=by
   show _=_;rw[←HQ.out];unfold addW;rw[HZZ.out,if_neg (by simp),HT.out]
  clear hT;have HL:=Lib.hid (rwOwn_any ⟨a0,c0,a1,c1,a2,c2,a3,c3,a4,c4,a5,c5,a6,c6,a7,c7⟩ s w1 (HA.out.ext B1) HFW.out);have zkX:=kX.lt;obtain⟨q0,q1,q2,q3,q4,q5,q6,q7,q8,q9,q10⟩:=zc11 kX;go_wp2_with fail;refine HL.out.mono ?_;rintro e4 w4 ⟨⟨b0,k0,b1,k1,b2,k2,b3,k3,b4,k4,b5,k5,b6,k6,b7,k7⟩,rfl,O4,hb4⟩;have hw34:=hb4.size;have HKR:w.heap.size+1<w1.heap.size:=kR.lt;have B4:=zbt B1 hb4;replace kX:=kX.below_ hb4 kX.lt;replace kR:=kR.below_ hb4 kR.lt;clear hb4;clear zkX q0 q1 q2 q3 q4 q5 q6 q7 q8 q9 q10;unfold swV swC;dsimp only;go_upto_region 5 with fail;obtain⟨V4,hV4⟩:∃ V,w4.alloc (.cells (zkx s b0 k0 b1 k1 b2 k2 b3 k3 b4 k4 b5 k5 b6 k6 b7 k7).toArray 35)=V:=⟨_,rfl⟩;obtain⟨G,hG⟩:∃ G,w4.heap.size=G:=⟨_,rfl⟩;have kG:Blk V4 G 35 (zkx s b0 k0 b1 k1 b2 k2 b3 k3 b4 k4 b5 k5 b6 k6 b7 k7).toArray:=by rw[←hV4,←hG];exact Blk.new_ rfl rfl
  have BV4:=zab hV4;have O4V:=O4.ext BV4;replace kX:=kX.below_ BV4 kX.lt;replace kR:=kR.below_ BV4 kR.lt;replace B4:=B4.trans (BV4.mono B4.size);have hV4s:w1.heap.size≤V4.heap.size:=by have:=BV4.size;omega
  have hwG:w.heap.size≤G:=by omega
  have hwG1:w.heap.size+1<G:=by omega
  rw[hV4,hG];clear hV4 hG BV4 O4;have zG:=kG.lt;have hSL:=rsRef_any a0 a1 c0 c1 s.sl n V4 (HA.out.ext B4).r0 (HA.out.ext B4).r1 HOK.out.sl;rw[HT.out] at hSL;have HSL:=Lib.hid hSL;unfold stV at HSL;clear hSL;have zkX:=kX.lt;obtain⟨-,q1,q2,-⟩:=zc11 kX;go_wp2_with fail;refine HSL.out.mono ?_;rintro e5 w5 ⟨A,c,B1,d1,rfl,oI,oB,hb5⟩;unfold stV;(try dsimp only);clear zkX q1 q2;have kG5:=kG.below_ hb5 zG;have zG5:=kG5.lt;replace kX:=kX.below_ hb5 kX.lt;replace kR:=kR.below_ hb5 kR.lt;obtain⟨-,u1,u2,-⟩:=zc11 kG5;obtain⟨-,uf1,uf2,-⟩:=zf kG5;go_upto_region 6 with fail;obtain⟨U5,hU5⟩:∃ U,setN w5 G 1 [.slice A T.refs.length c,.slice B1 T.busy.length d1]=U:=⟨_,rfl⟩;have hU5n:World.setCell (World.setCell w5 ⟨G,1,none⟩ (.slice A T.refs.length c)) ⟨G,2,none⟩ (.slice B1 T.busy.length d1)=U5:=hU5;have kG_:Blk U5 G 35 #[.int .i64 s.cap,.slice A T.refs.length c,.slice B1 T.busy.length d1,.slice b2 s.wr.length k2,.slice b3 s.rd.length k3,.slice b4 s.desc.length k4,.slice b5 s.dk.cells.length k5,.slice b6 s.dk.jobs.length k6,.int .i64 s.dk.room,.int .i64 s.po.size,.slice b7 s.po.free.length k7]:=by rw[←hU5];exact(Blk.set_ (Blk.set_ kG5 1 _) 2 _)
  replace kX:=(show Blk U5 _ _ _ from by rw[←hU5];exact kX.kept (grown_setN _ _ _ _) (by simp;omega));replace kR:=(show Blk U5 _ _ _ from by rw[←hU5];exact kR.kept (grown_setN _ _ _ _) (by simp;omega))
  have O5:SwO U5 w1.heap.size ⟨A,c,B1,d1,b2,k2,b3,k3,b4,k4,b5,k5,b6,k6,b7,k7⟩ { s with sl:=T }:=by
   rw[←hU5];have x:=O4V.ext hb5;exact SwO.farO (L:=⟨A,c,B1,d1,b2,k2,b3,k3,b4,k4,b5,k5,b6,k6,b7,k7⟩) (s:={ s with sl:=T }) ⟨oI.base_ hV4s,oB.base_ hV4s,x.o2,x.o3,x.o4,x.o5,x.o6,x.o7,(O4V.o4.part oI (Nat.le_refl _)).symm,x.p7⟩ kG5 _
  have B5:Below w.heap.size w U5:=by rw[←hU5];exact below_setN (B4.trans (hb5.mono B4.size)) hwG _
  rw[hU5n];clear hU5n hU5 oI oB hb5 kG kG5 zG zG5 uf1 uf2 O4V;(try clear u1 u2);have kG:=kG_;clear kG_;have zG:=kG.lt;have HO5:=Lib.hid O5;clear O5
  by_cases e0:er=0
  ·subst e0
   have HE:Hid (Q=({ s with sl:=T },0)):=by show _=_;rw[HQ2.out,if_neg (by simp)]
   obtain⟨u0,u1,u2,u3,u4,u5,u6,u7,u8,u9,u10⟩:=zc11 kG;have zR:=kR.lt;obtain⟨t0,t1,t2,t3,t4,t5,t6,t7,t8,t9,t10⟩:=zc11 kR;obtain⟨tf0,tf1,tf2,tf3,tf4,tf5,tf6,tf7,tf8,tf9,tf10,-⟩:=zf kR;go_wp2_with fail;obtain⟨W,hW⟩:∃ W,setN U5 (w.heap.size+1) 0 [.int .i64 s.cap,.slice A T.refs.length c,.slice B1 T.busy.length d1,.slice b2 s.wr.length k2,.slice b3 s.rd.length k3,.slice b4 s.desc.length k4,.slice b5 s.dk.cells.length k5,.slice b6 s.dk.jobs.length k6,.int .i64 s.dk.room,.int .i64 s.po.size,.slice b7 s.po.free.length k7]=W:=⟨_,rfl⟩;have hWn:=zs11 hW;have kW:=zsw hW kR;have bW:=zbw hW B5 (by omega);have OW:SwO W w1.heap.size ⟨A,c,B1,d1,b2,k2,b3,k3,b4,k4,b5,k5,b6,k6,b7,k7⟩ { s with sl:=T }:=by rw[←hW];exact HO5.out.farO kR _
   rw[hWn];clear hWn hW t0 tf0 t1 tf1 t2 tf2 t3 tf3 t4 tf4 t5 tf5 t6 tf6 t7 tf7 t8 tf8 t9 tf9 t10 tf10;refine bodyPost_ret (by simp[results,Tryz.results27,go_sem,zc11 kW] <;> rfl) rfl ?_;rw[HE.out];exact⟨⟨A,c,B1,d1,b2,k2,b3,k3,b4,k4,b5,k5,b6,k6,b7,k7⟩,rfl,OW.base_ (Nat.zero_le _),bW⟩
  ·have HE:Hid (Q=(.zero,er)):=by show _=_;rw[HQ2.out,if_pos e0]
   have eb:(er != 0)=true:=by simpa using e0
   clear e0;have ztR:=kR.lt;obtain⟨t0,t1,t2,t3,t4,t5,t6,t7,t8,t9,t10⟩:=zc11 kR;obtain⟨tf0,tf1,tf2,tf3,tf4,tf5,tf6,tf7,tf8,tf9,tf10,-⟩:=zf kR;go_wp2_with fail;obtain⟨W,hW⟩:∃ W,setN U5 (w.heap.size+1) 0 zkz=W:=⟨_,rfl⟩;have hWn:=zs11 hW;have kW:=zsw hW kR;have bW:=zbw hW B5 (by omega);rw[hWn];clear hWn hW t0 tf0 t1 tf1 t2 tf2 t3 tf3 t4 tf4 t5 tf5 t6 tf6 t7 tf7 t8 tf8 t9 tf9 t10 tf10;refine bodyPost_ret (by simp[results,Tryz.results27,go_sem,zc11 kW] <;> rfl) rfl ?_;rw[HE.out];exact⟨.zero,rfl,SwO.zero,bW⟩
 ·have HE:Hid (Q=(.zero,z)):=by show _=_;rw[←HQ.out];unfold addW;rw[HZZ.out,if_pos z0]
  have zb:(z != 0)=true:=by simpa using z0
  clear z0;have ztR:=kR.lt;obtain⟨t0,t1,t2,t3,t4,t5,t6,t7,t8,t9,t10⟩:=zc11 kR;obtain⟨tf0,tf1,tf2,tf3,tf4,tf5,tf6,tf7,tf8,tf9,tf10,-⟩:=zf kR;go_wp2_with fail;obtain⟨W,hW⟩:∃ W,setN w1 (w.heap.size+1) 0 zkz=W:=⟨_,rfl⟩;have hWn:=zs11 hW;have kW:=zsw hW kR;have bW:=zbw hW B1 (by omega);rw[hWn];clear hWn hW t0 tf0 t1 tf1 t2 tf2 t3 tf3 t4 tf4 t5 tf5 t6 tf6 t7 tf7 t8 tf8 t9 tf9 t10 tf10;refine bodyPost_ret (by simp[results,Tryz.results27,go_sem,zc11 kW] <;> rfl) rfl ?_;rw[HE.out];exact⟨.zero,rfl,SwO.zero,bW⟩
theorem rwUnref_any(L:Lay)(s:Swp)(n:Int)(w:World)(h:SwR w L s)(hf:Few s) :
  Calls Tryz.prog 29 #[swV L s,.int .i64 n] w (SwPo (unrW s n).1 [.bool (unrW s n).2.1,.int .i64 (unrW s n).2.2] w):=by
 obtain⟨a0,c0,a1,c1,a2,c2,a3,c3,a4,c4,a5,c5,a6,c6,a7,c7⟩:=L;obtain⟨Q,hQ⟩:∃ Q,unrW s n=Q:=⟨_,rfl⟩;rw[hQ];have HQ:=Lib.hid hQ;clear hQ;have HA:=Lib.hid h;have HFW:=Lib.hid hf;clear h hf;unfold swV swC;obtain⟨X,hX⟩:∃ X,(w.alloc (.cells (zkx s a0 c0 a1 c1 a2 c2 a3 c3 a4 c4 a5 c5 a6 c6 a7 c7).toArray 35)).alloc (.cells zkz.toArray 35)=X:=⟨_,rfl⟩;have kX:=za1 hX;have kR:=za2 hX;have BX:Below w.heap.size w X:=by rw[←hX];exact zbl
 obtain⟨z,hzz⟩:∃ z,chkW s=z:=⟨_,rfl⟩;have HZZ:=Lib.hid hzz;have hC:=rwCheck_any ⟨a0,c0,a1,c1,a2,c2,a3,c3,a4,c4,a5,c5,a6,c6,a7,c7⟩ s X (HA.out.ext BX) HFW.out;rw[hzz] at hC;have HC:=Lib.hid hC;clear hC hzz;have zkX:=kX.lt;obtain⟨q0,q1,q2,q3,q4,q5,q6,q7,q8,q9,q10⟩:=zc11 kX
 go_enter Tryz.func29,Tryz.ntmps29
 go_wp2_with fail;(try rw[hX]);clear hX;refine HC.out.mono ?_;rintro e1 w1 ⟨rfl,hb1⟩;have B1:=zbt BX hb1;replace kX:=kX.below_ hb1 kX.lt;replace kR:=kR.below_ hb1 kR.lt;clear hb1;clear zkX q0 q1 q2 q3 q4 q5 q6 q7 q8 q9 q10
 by_cases z0:z=0
 ·subst z0
  have HOK:Hid (OkS s):=chkW_ok.1 HZZ.out;obtain⟨⟨T,fb,er⟩,hT⟩:∃ q,unrT s.sl n=q:=⟨_,rfl⟩;have HT:=Lib.hid hT
  have HQ2:Hid (Q=if er≠0 then (.zero,false,er) else if refT T n.toNat=0∧wtdL (s.wr++s.rd) n=true then (.zero,false,9) else ({ s with sl:=T },fb,0)):=by
   show _=_;rw[←HQ.out];unfold unrW;rw[HZZ.out,if_neg (by simp),HT.out,any_wtd]
  clear hT;have HL:=Lib.hid (rwOwn_any ⟨a0,c0,a1,c1,a2,c2,a3,c3,a4,c4,a5,c5,a6,c6,a7,c7⟩ s w1 (HA.out.ext B1) HFW.out);have zkX:=kX.lt;obtain⟨q0,q1,q2,q3,q4,q5,q6,q7,q8,q9,q10⟩:=zc11 kX;go_wp2_with fail;refine HL.out.mono ?_;rintro e4 w4 ⟨⟨b0,k0,b1,k1,b2,k2,b3,k3,b4,k4,b5,k5,b6,k6,b7,k7⟩,rfl,O4,hb4⟩;have hw34:=hb4.size;have HKR:w.heap.size+1<w1.heap.size:=kR.lt;have B4:=zbt B1 hb4;replace kX:=kX.below_ hb4 kX.lt;replace kR:=kR.below_ hb4 kR.lt;clear hb4;clear zkX q0 q1 q2 q3 q4 q5 q6 q7 q8 q9 q10;unfold swV swC;dsimp only;go_upto_region 5 with fail;obtain⟨V4,hV4⟩:∃ V,w4.alloc (.cells (zkx s b0 k0 b1 k1 b2 k2 b3 k3 b4 k4 b5 k5 b6 k6 b7 k7).toArray 35)=V:=⟨_,rfl⟩;obtain⟨G,hG⟩:∃ G,w4.heap.size=G:=⟨_,rfl⟩;have kG:Blk V4 G 35 (zkx s b0 k0 b1 k1 b2 k2 b3 k3 b4 k4 b5 k5 b6 k6 b7 k7).toArray:=by rw[←hV4,←hG];exact Blk.new_ rfl rfl
  have BV4:=zab hV4;have O4V:=O4.ext BV4;replace kX:=kX.below_ BV4 kX.lt;replace kR:=kR.below_ BV4 kR.lt;replace B4:=B4.trans (BV4.mono B4.size);have hV4s:w1.heap.size≤V4.heap.size:=by have:=BV4.size;omega
  have hwG:w.heap.size≤G:=by omega
  have hwG1:w.heap.size+1<G:=by omega
  rw[hV4,hG];clear hV4 hG BV4 O4;have zG:=kG.lt;have hSL:=rsUnref_any a0 a1 c0 c1 s.sl n V4 (HA.out.ext B4).r0 (HA.out.ext B4).r1 HOK.out.sl;rw[HT.out] at hSL;have HSL:=Lib.hid hSL;unfold stV at HSL;clear hSL;have zkX:=kX.lt;obtain⟨-,q1,q2,-⟩:=zc11 kX;go_wp2_with fail;refine HSL.out.mono ?_;rintro e5 w5 ⟨A,c,B1,d1,rfl,oI,oB,hb5⟩;unfold stV;(try dsimp only);clear zkX q1 q2;have kG5:=kG.below_ hb5 zG;have zG5:=kG5.lt;replace kX:=kX.below_ hb5 kX.lt;replace kR:=kR.below_ hb5 kR.lt;obtain⟨-,u1,u2,-⟩:=zc11 kG5;obtain⟨-,uf1,uf2,-⟩:=zf kG5;go_upto_region 7 with fail;obtain⟨U5,hU5⟩:∃ U,setN w5 G 1 [.slice A T.refs.length c,.slice B1 T.busy.length d1]=U:=⟨_,rfl⟩;have hU5n:World.setCell (World.setCell w5 ⟨G,1,none⟩ (.slice A T.refs.length c)) ⟨G,2,none⟩ (.slice B1 T.busy.length d1)=U5:=hU5;have kG_:Blk U5 G 35 #[.int .i64 s.cap,.slice A T.refs.length c,.slice B1 T.busy.length d1,.slice b2 s.wr.length k2,.slice b3 s.rd.length k3,.slice b4 s.desc.length k4,.slice b5 s.dk.cells.length k5,.slice b6 s.dk.jobs.length k6,.int .i64 s.dk.room,.int .i64 s.po.size,.slice b7 s.po.free.length k7]:=by rw[←hU5];exact(Blk.set_ (Blk.set_ kG5 1 _) 2 _)
  replace kX:=(show Blk U5 _ _ _ from by rw[←hU5];exact kX.kept (grown_setN _ _ _ _) (by simp;omega));replace kR:=(show Blk U5 _ _ _ from by rw[←hU5];exact kR.kept (grown_setN _ _ _ _) (by simp;omega))
  have O5:SwO U5 w1.heap.size ⟨A,c,B1,d1,b2,k2,b3,k3,b4,k4,b5,k5,b6,k6,b7,k7⟩ { s with sl:=T }:=by
   rw[←hU5];have x:=O4V.ext hb5;exact SwO.farO (L:=⟨A,c,B1,d1,b2,k2,b3,k3,b4,k4,b5,k5,b6,k6,b7,k7⟩) (s:={ s with sl:=T }) ⟨oI.base_ hV4s,oB.base_ hV4s,x.o2,x.o3,x.o4,x.o5,x.o6,x.o7,(O4V.o4.part oI (Nat.le_refl _)).symm,x.p7⟩ kG5 _
  have B5:Below w.heap.size w U5:=by rw[←hU5];exact below_setN (B4.trans (hb5.mono B4.size)) hwG _
  rw[hU5n];clear hU5n hU5 oI oB hb5 kG kG5 zG zG5 uf1 uf2 O4V;(try clear u1 u2);have kG:=kG_;clear kG_;have zG:=kG.lt;have HO5:=Lib.hid O5;clear O5
  by_cases e0:er=0
  ·subst e0
   have hz:=unrT_zero HOK.out.sl (n:=n) (by rw[HT.out]);rw[HT.out] at hz;obtain⟨hn,_,hT2⟩:=hz;obtain⟨k,rfl⟩:∃ k:Nat,n=k:=⟨n.toNat,by omega⟩
   have hk:k<T.refs.length:=by
    dsimp only at hT2;rw[hT2];simpa [witT] using hn
   clear hn hT2;obtain⟨bt,ot,x,hA1,hbl,hx,hc⟩:=HO5.out.o0.sr.at_ hk;dsimp only at hA1;subst hA1;have HX:Hid (refT T k=x):=by show _=_;unfold refT;rw[List.getD_eq_getElem?_getD,hx];rfl
   have ct:U5.cell? ⟨bt,ot+k,none⟩=some (.int .i64 x):=by simpa [show intE.sz=1 from rfl] using hc 0 (.int .i64 x) rfl
   have i1:(k:Int)<T.refs.length:=by omega
   have HQ3:Hid (Q=if x=0∧wtdL (s.wr++s.rd) k=true then (.zero,false,9) else ({ s with sl:=T },fb,0)):=by
    show _=_;rw[HQ2.out,if_neg (by simp),Int.toNat_natCast,HX.out]
   clear hx hc
   by_cases x0:x=0
   ·have x0b:(x == 0)=true:=by simpa using x0
    obtain⟨wb,hwb⟩:∃ b,wtdL (s.wr++s.rd) k=b:=⟨_,rfl⟩;have HWB:=Lib.hid hwb;have hWA:=rwWaited_any ⟨a0,c0,a1,c1,a2,c2,a3,c3,a4,c4,a5,c5,a6,c6,a7,c7⟩ s k U5 (HA.out.ext B5) HFW.out;rw[hwb] at hWA;have HWA:=Lib.hid hWA;unfold swV swC at HWA;clear hwb hWA;have HX0:=Lib.hid x0;clear x0;have u1:=zc kG 1;have zkX:=kX.lt;obtain⟨q0,q1,q2,q3,q4,q5,q6,q7,q8,q9,q10⟩:=zc11 kX;go_wp2_with fail;refine HWA.out.mono ?_;rintro e6 w6 ⟨rfl,hb6⟩;have B6:=zbt B5 hb6;replace kR:=kR.below_ hb6 kR.lt;replace kG:=kG.below_ hb6 kG.lt;replace HO5:=Lib.hid (HO5.out.ext hb6);clear zkX ct u1 zG q0 q1 q2 q3 q4 q5 q6 q7 q8 q9 q10 hb6;have zG:=kG.lt
    cases wb with
    | true=>
     have HE:Hid (Q=(.zero,false,9)):=by show _=_;rw[HQ3.out,if_pos ⟨HX0.out,HWB.out⟩]
     have ztR:=kR.lt;obtain⟨t0,t1,t2,t3,t4,t5,t6,t7,t8,t9,t10⟩:=zc11 kR;obtain⟨tf0,tf1,tf2,tf3,tf4,tf5,tf6,tf7,tf8,tf9,tf10,-⟩:=zf kR;go_wp2_with fail;obtain⟨W,hW⟩:∃ W,setN w6 (w.heap.size+1) 0 zkz=W:=⟨_,rfl⟩;have hWn:=zs11 hW;have kW:=zsw hW kR;have bW:=zbw hW B6 (by omega);rw[hWn];clear hWn hW t0 tf0 t1 tf1 t2 tf2 t3 tf3 t4 tf4 t5 tf5 t6 tf6 t7 tf7 t8 tf8 t9 tf9 t10 tf10;refine bodyPost_ret (by simp[results,Tryz.results29,go_sem,zc11 kW] <;> rfl) rfl ?_;rw[HE.out];exact⟨.zero,rfl,SwO.zero,bW⟩
    | false=>
     have HE:Hid (Q=({ s with sl:=T },fb,0)):=by show _=_;rw[HQ3.out,if_neg (by rw[HWB.out];simp)]
     obtain⟨u0,u1,u2,u3,u4,u5,u6,u7,u8,u9,u10⟩:=zc11 kG;have zR:=kR.lt;obtain⟨t0,t1,t2,t3,t4,t5,t6,t7,t8,t9,t10⟩:=zc11 kR;obtain⟨tf0,tf1,tf2,tf3,tf4,tf5,tf6,tf7,tf8,tf9,tf10,-⟩:=zf kR;go_wp2_with fail;obtain⟨W,hW⟩:∃ W,setN w6 (w.heap.size+1) 0 [.int .i64 s.cap,.slice (some ⟨bt,ot,none⟩) T.refs.length c,.slice B1 T.busy.length d1,.slice b2 s.wr.length k2,.slice b3 s.rd.length k3,.slice b4 s.desc.length k4,.slice b5 s.dk.cells.length k5,.slice b6 s.dk.jobs.length k6,.int .i64 s.dk.room,.int .i64 s.po.size,.slice b7 s.po.free.length k7]=W:=⟨_,rfl⟩;have hWn:=zs11 hW;have kW:=zsw hW kR;have bW:=zbw hW B6 (by omega);have OW:SwO W w1.heap.size ⟨some ⟨bt,ot,none⟩,c,B1,d1,b2,k2,b3,k3,b4,k4,b5,k5,b6,k6,b7,k7⟩ { s with sl:=T }:=by rw[←hW];exact HO5.out.farO kR _
     rw[hWn];clear hWn hW t0 tf0 t1 tf1 t2 tf2 t3 tf3 t4 tf4 t5 tf5 t6 tf6 t7 tf7 t8 tf8 t9 tf9 t10 tf10;refine bodyPost_ret (by simp[results,Tryz.results29,go_sem,zc11 kW] <;> rfl) rfl ?_;rw[HE.out];exact⟨⟨some ⟨bt,ot,none⟩,c,B1,d1,b2,k2,b3,k3,b4,k4,b5,k5,b6,k6,b7,k7⟩,rfl,OW.base_ (Nat.zero_le _),bW⟩
   ·have x0b:(x == 0)=false:=by simpa using x0
    have HE:Hid (Q=({ s with sl:=T },fb,0)):=by show _=_;rw[HQ3.out,if_neg (fun h=>x0 h.1)]
    clear x0;obtain⟨u0,u1,u2,u3,u4,u5,u6,u7,u8,u9,u10⟩:=zc11 kG;have zR:=kR.lt;obtain⟨t0,t1,t2,t3,t4,t5,t6,t7,t8,t9,t10⟩:=zc11 kR;obtain⟨tf0,tf1,tf2,tf3,tf4,tf5,tf6,tf7,tf8,tf9,tf10,-⟩:=zf kR;go_wp2_with fail;obtain⟨W,hW⟩:∃ W,setN U5 (w.heap.size+1) 0 [.int .i64 s.cap,.slice (some ⟨bt,ot,none⟩) T.refs.length c,.slice B1 T.busy.length d1,.slice b2 s.wr.length k2,.slice b3 s.rd.length k3,.slice b4 s.desc.length k4,.slice b5 s.dk.cells.length k5,.slice b6 s.dk.jobs.length k6,.int .i64 s.dk.room,.int .i64 s.po.size,.slice b7 s.po.free.length k7]=W:=⟨_,rfl⟩;have hWn:=zs11 hW;have kW:=zsw hW kR;have bW:=zbw hW B5 (by omega);have OW:SwO W w1.heap.size ⟨some ⟨bt,ot,none⟩,c,B1,d1,b2,k2,b3,k3,b4,k4,b5,k5,b6,k6,b7,k7⟩ { s with sl:=T }:=by rw[←hW];exact HO5.out.farO kR _
    rw[hWn];clear hWn hW t0 tf0 t1 tf1 t2 tf2 t3 tf3 t4 tf4 t5 tf5 t6 tf6 t7 tf7 t8 tf8 t9 tf9 t10 tf10;refine bodyPost_ret (by simp[results,Tryz.results29,go_sem,zc11 kW] <;> rfl) rfl ?_;rw[HE.out];exact⟨⟨some ⟨bt,ot,none⟩,c,B1,d1,b2,k2,b3,k3,b4,k4,b5,k5,b6,k6,b7,k7⟩,rfl,OW.base_ (Nat.zero_le _),bW⟩
  ·have HE:Hid (Q=(.zero,false,er)):=by show _=_;rw[HQ2.out,if_pos e0]
   have eb:(er != 0)=true:=by simpa using e0
   clear e0;have ztR:=kR.lt;obtain⟨t0,t1,t2,t3,t4,t5,t6,t7,t8,t9,t10⟩:=zc11 kR;obtain⟨tf0,tf1,tf2,tf3,tf4,tf5,tf6,tf7,tf8,tf9,tf10,-⟩:=zf kR;go_wp2_with fail;obtain⟨W,hW⟩:∃ W,setN U5 (w.heap.size+1) 0 zkz=W:=⟨_,rfl⟩;have hWn:=zs11 hW;have kW:=zsw hW kR;have bW:=zbw hW B5 (by omega);rw[hWn];clear hWn hW t0 tf0 t1 tf1 t2 tf2 t3 tf3 t4 tf4 t5 tf5 t6 tf6 t7 tf7 t8 tf8 t9 tf9 t10 tf10;refine bodyPost_ret (by simp[results,Tryz.results29,go_sem,zc11 kW] <;> rfl) rfl ?_;rw[HE.out];exact⟨.zero,rfl,SwO.zero,bW⟩
 ·have HE:Hid (Q=(.zero,false,z)):=by show _=_;rw[←HQ.out];unfold unrW;rw[HZZ.out,if_pos z0]
  have zb:(z != 0)=true:=by simpa using z0
  clear z0;have ztR:=kR.lt;obtain⟨t0,t1,t2,t3,t4,t5,t6,t7,t8,t9,t10⟩:=zc11 kR;obtain⟨tf0,tf1,tf2,tf3,tf4,tf5,tf6,tf7,tf8,tf9,tf10,-⟩:=zf kR;go_wp2_with fail;obtain⟨W,hW⟩:∃ W,setN w1 (w.heap.size+1) 0 zkz=W:=⟨_,rfl⟩;have hWn:=zs11 hW;have kW:=zsw hW kR;have bW:=zbw hW B1 (by omega);rw[hWn];clear hWn hW t0 tf0 t1 tf1 t2 tf2 t3 tf3 t4 tf4 t5 tf5 t6 tf6 t7 tf7 t8 tf8 t9 tf9 t10 tf10;refine bodyPost_ret (by simp[results,Tryz.results29,go_sem,zc11 kW] <;> rfl) rfl ?_;rw[HE.out];exact⟨.zero,rfl,SwO.zero,bW⟩
end Go.Proofs.YthijbipidbjpfaaGreatDoor
