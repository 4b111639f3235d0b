import Derived.Test.YthijbipidbjpfaaGreatDoorZP17
import Derived.Test.YthijbipidbjpfaaGreatDoorZP00
import Derived.Test.YthijbipidbjpfaaGreatDoorZP03
import Derived.Test.YthijbipidbjpfaaGreatDoorZP06
set_option linter.unusedSimpArgs false
set_option linter.unusedVariables false
set_option maxRecDepth 100000
set_option maxHeartbeats 8000000
namespace Go.Proofs.YthijbipidbjpfaaGreatDoor
open Go.RowKit Go.Maps
structure SwA (w:World) (L:Lay) (s:Swp):Prop where
 sw:SwR w L s
 few:Few s
 wf:∀ v ∈ s.rd,(Lit.int .i64 v.2.2).wf=true
theorem SwA.ext{w w':World}{L:Lay}{s:Swp}(h:SwA w L s)(hb:Below w.heap.size w w'):SwA w' L s:=⟨h.sw.ext hb,h.few,h.wf⟩
theorem chkW_parts{s:Swp}(h0:¬ (s.cap<1∨16<s.cap))(h1:(chkT s.sl).1=0)(h2:(chkS s.wr).1=0)(h3:(chkD s.dk).1=0)(h4:(chkP s.po).1=0):chkW s=if agW s then 0 else 3:=by
 unfold chkW;rw[if_neg h0,if_neg (by simpa using h1),if_neg (by simpa using h2),if_neg (by simpa using h3),if_neg (by simpa using h4)]
theorem wCheck_any(L:Lay)(s:Swp)(w:World)(h:SwA w L s)(hz:TZ w):Calls Tryz.prog 18 #[swV L s] w fun e w'=>e=.returned (.int .i64 (chkW s))∧Below w.heap.size w w':=by
 obtain⟨a0,c0,a1,c1,a2,c2,a3,c3,a4,c4,a5,c5,a6,c6,a7,c7⟩:=L;have HS:=Lib.hid h.sw;have HF:=Lib.hid h.few;have HWF:=Lib.hid h.wf;have HZ:=Lib.hid hz;have HW0:0<w.heap.size:=hz.pos;obtain⟨f0,f1,f2,f3,f4,f5,f6,f7⟩:=h.few;obtain⟨R,hR⟩:∃ R,chkW s=R:=⟨_,rfl⟩;rw[hR];have HR:=Lib.hid hR;clear h hz hR;unfold swV swC;obtain⟨X,hX⟩:∃ X,w.alloc (.cells (zkx s a0 c0 a1 c1 a2 c2 a3 c3 a4 c4 a5 c5 a6 c6 a7 c7).toArray 35)=X:=⟨_,rfl⟩;have kX:Blk X w.heap.size 35 (zkx s a0 c0 a1 c1 a2 c2 a3 c3 a4 c4 a5 c5 a6 c6 a7 c7).toArray:=by rw[←hX];exact zbk
 have BX:Below w.heap.size w X:=by rw[←hX];exact zbl
 have zkX:=kX.lt;obtain⟨q0,q1,q2,-⟩:=zc11 kX
 by_cases p0:s.cap<1
 ·have HE:Hid (R=2):=by show _=_;rw[←HR.out];unfold chkW;rw[if_pos (.inl p0)]
  have b0:decide (s.cap<1)=true:=by simpa using p0
  clear p0
  go_enter Tryz.func18,Tryz.ntmps18
  go_wp2_with fail;go_ret;exact⟨by rw[HE.out];rfl,BX⟩
 ·have b0:decide (s.cap<1)=false:=by simpa using p0
  by_cases p1:16<s.cap
  ·have HE:Hid (R=2):=by show _=_;rw[←HR.out];unfold chkW;rw[if_pos (.inr p1)]
   have b1:decide (s.cap>16)=true:=by simpa using p1
   clear p0 p1
   go_enter Tryz.func18,Tryz.ntmps18
   go_wp2_with fail;go_ret;exact⟨by rw[HE.out];rfl,BX⟩
  ·have b1:decide (s.cap>16)=false:=by simpa using p1
   have HC:Hid (¬ (s.cap<1∨16<s.cap)):=fun h=>h.elim p0 p1
   obtain⟨⟨z1,n1⟩,hz1⟩:∃ r,chkT s.sl=r:=⟨_,rfl⟩;have HZ1:=Lib.hid hz1;clear p0 p1 hz1
   go_enter Tryz.func18,Tryz.ntmps18
   go_wp2_with fail;(try rw[hX]);clear hX;refine (sCheck_any a0 a1 c0 c1 s.sl X (HS.out.r0.ext BX) (by omega) (by omega) HZ1.out).mono ?_;rintro e1 w1 ⟨rfl,hb1⟩;have B1:=zbt BX hb1;replace kX:=kX.below_ hb1 kX.lt;clear hb1;clear zkX q0 q1 q2
   by_cases y1:z1=0
   ·subst y1
    have zkX:=kX.lt;obtain⟨-,-,-,q3,-⟩:=zc11 kX;obtain⟨⟨z2,n2⟩,hz2⟩:∃ r,chkS s.wr=r:=⟨_,rfl⟩;have HZ2:=Lib.hid hz2;clear hz2;go_wp2_with fail;refine (Check_any a2 c2 s.wr w1 (HS.out.r2.ext B1).sw (by omega) HZ2.out).mono ?_;rintro e2 w2 ⟨rfl,hb2⟩;have B2:=zbt B1 hb2;replace kX:=kX.below_ hb2 kX.lt;clear hb2;clear zkX q3
    by_cases y2:z2=0
    ·subst y2
     have zkX:=kX.lt;obtain⟨-,-,-,-,-,-,q6,q7,q8,-⟩:=zc11 kX;obtain⟨⟨z3,n3⟩,hz3⟩:∃ r,chkD s.dk=r:=⟨_,rfl⟩;have HZ3:=Lib.hid hz3;clear hz3;go_wp2_with fail;refine (dCheck_any a5 a6 c5 c6 s.dk w2 (HS.out.r6.ext B2) (by omega) (by omega) HZ3.out).mono ?_;rintro e3 w3 ⟨rfl,hb3⟩;have B3:=zbt B2 hb3;replace kX:=kX.below_ hb3 kX.lt;clear hb3;clear zkX q6 q7 q8
     by_cases y3:z3=0
     ·subst y3
      have zkX:=kX.lt;obtain⟨-,-,-,-,-,-,-,-,-,q9,q10⟩:=zc11 kX;obtain⟨⟨z4,n4⟩,hz4⟩:∃ r,chkP s.po=r:=⟨_,rfl⟩;have HZ4:=Lib.hid hz4;clear hz4;go_wp2_with fail;refine (pCheck_any a7 c7 s.po w3 (HS.out.r7.ext B3) (by omega) HZ4.out).mono ?_;rintro e4 w4 ⟨rfl,hb4⟩;have B4:=zbt B3 hb4;replace kX:=kX.below_ hb4 kX.lt;clear hb4;clear zkX q9 q10
      by_cases y4:z4=0
      ·subst y4
       have zkX:=kX.lt;obtain⟨q0,q1,q2,q3,q4,q5,q6,q7,q8,q9,q10⟩:=zc11 kX;have HA:=Lib.hid (agrees_any ⟨a0,c0,a1,c1,a2,c2,a3,c3,a4,c4,a5,c5,a6,c6,a7,c7⟩ s w4 (HS.out.ext B4) HF.out HWF.out (chkT_ok.1 (by rw[HZ1.out])) (chkS_ok.1 (by rw[HZ2.out])) (chkD_ok.1 (by rw[HZ3.out])) (chkP_ok (by rw[HZ4.out])) (HZ.out.ext HW0 B4));have HP:=Lib.hid (chkW_parts HC.out (by rw[HZ1.out]) (by rw[HZ2.out]) (by rw[HZ3.out]) (by rw[HZ4.out]));obtain⟨ag,hag⟩:∃ b,agW s=b:=⟨_,rfl⟩;rw[hag] at HA HP;clear hag;go_wp2_with fail;refine HA.out.mono ?_;rintro e5 w5 ⟨rfl,hb5⟩;have B5:=zbt B4 hb5;replace kX:=kX.below_ hb5 kX.lt;clear hb5;clear zkX q0 q1 q2 q3 q4 q5 q6 q7 q8 q9 q10
       cases ag with
       | true=>
        have HE:Hid (R=0):=by show _=_;rw[←HR.out,HP.out];rfl
        go_wp2_with fail;go_ret;exact⟨by rw[HE.out];rfl,B5⟩
       | false=>
        have HE:Hid (R=3):=by show _=_;rw[←HR.out,HP.out];rfl
        go_wp2_with fail;go_ret;exact⟨by rw[HE.out];rfl,B5⟩
      ·have HE:Hid (R=z4):=by show _=_;rw[←HR.out];unfold chkW;rw[if_neg HC.out,HZ1.out,if_neg (by simp),HZ2.out,if_neg (by simp),HZ3.out,if_neg (by simp),HZ4.out,if_pos (by simpa using y4)]
       have yb:(z4 != 0)=true:=by simpa using y4
       clear y4;go_wp2_with fail;go_ret;exact⟨by rw[HE.out];rfl,B4⟩
     ·have HE:Hid (R=z3):=by show _=_;rw[←HR.out];unfold chkW;rw[if_neg HC.out,HZ1.out,if_neg (by simp),HZ2.out,if_neg (by simp),HZ3.out,if_pos (by simpa using y3)]
      have yb:(z3 != 0)=true:=by simpa using y3
      clear y3;go_wp2_with fail;go_ret;exact⟨by rw[HE.out];rfl,B3⟩
    ·have HE:Hid (R=z2):=by show _=_;rw[←HR.out];unfold chkW;rw[if_neg HC.out,HZ1.out,if_neg (by simp),HZ2.out,if_pos (by simpa using y2)]
     have yb:(z2 != 0)=true:=by simpa using y2
     clear y2;go_wp2_with fail;go_ret;exact⟨by rw[HE.out];rfl,B2⟩
   ·have HE:Hid (R=z1):=by show _=_;rw[←HR.out];unfold chkW;rw[if_neg HC.out,HZ1.out,if_pos (by simpa using y1)]
    have yb:(z1 != 0)=true:=by simpa using y1
    clear y1;go_wp2_with fail;go_ret;exact⟨by rw[HE.out];rfl,B1⟩
theorem any_idx{l:List Jb}{f:Int}:decide (idxI (l.findIdx? fun j=>decide (j.frame=f))≥0)=l.any fun j=>decide (j.frame=f):=by
 cases h:l.findIdx? fun j=>decide (j.frame=f) with
 | none=>
  rw[List.findIdx?_eq_none_iff] at h
  have:(l.any fun j=>decide (j.frame=f))=false:=List.any_eq_false.2 fun x hx=>by simpa using h x hx
  rw[this];rfl
 | some i=>
  rw[List.findIdx?_eq_some_iff_getElem] at h;obtain⟨hi,h1,_⟩:=h;have:(l.any fun j=>decide (j.frame=f))=true:=List.any_eq_true.2 ⟨l[i],List.getElem_mem _,h1⟩;rw[this];exact decide_eq_true (by show (i:Int)≥0;omega)
theorem cfJ_any(A:Option Addr)(c:Nat)(l:List Jb)(B:Nat)(f:Int)(w:World)(ha:SR jbE w A l)(la:l.length≤1000)(hB:w.cell? ⟨B,0,none⟩=some (.int .i64 f))(hl:B<w.heap.size) :
  Calls Tryz.prog 102 #[.slice A l.length c,.func (.func 103) #[] #[.pointer (some ⟨B,0,none⟩)]] w fun e w'=>e=.returned (.bool (l.any fun j=>decide (j.frame=f)))∧Below w.heap.size w w':=by
 have H:=Lib.hid (ixJ_any A c l B f w ha la hB hl);obtain⟨i,hi⟩:∃ i,idxI (l.findIdx? fun j=>decide (j.frame=f))=i:=⟨_,rfl⟩;have HE:=Lib.hid (any_idx (l:=l) (f:=f));rw[hi] at H HE;obtain⟨b,hb⟩:∃ b,decide (i≥0)=b:=⟨_,rfl⟩;rw[hb] at HE;rw[←HE.out];clear ha la hB hl hi HE
 go_enter Tryz.func102,Tryz.ntmps102
 go_wp2_with fail;refine H.out.mono ?_;rintro e1 w1 ⟨rfl,hb1⟩;go_wp2_with fail;go_ret;exact⟨rfl,hb1⟩
theorem hasFrame_any(L:Lay)(s:Swp)(f:Int)(w:World)(h:SR jbE w L.a6 s.dk.jobs)(hf:s.dk.jobs.length≤1000):Calls Tryz.prog 49 #[swV L s,.int .i64 f] w fun e w'=>e=.returned (.bool (usW s f))∧Below w.heap.size w w':=by
 obtain⟨a0,c0,a1,c1,a2,c2,a3,c3,a4,c4,a5,c5,a6,c6,a7,c7⟩:=L;have HS:=Lib.hid h;clear h;unfold swV swC;obtain⟨X,hX⟩:∃ X,(w.alloc (.cells (zkx s a0 c0 a1 c1 a2 c2 a3 c3 a4 c4 a5 c5 a6 c6 a7 c7).toArray 35)).alloc (.cells #[.int .i64 f] 3)=X:=⟨_,rfl⟩;have kX:=za1 hX;have kF:=za2 hX;have BX:Below w.heap.size w X:=by rw[←hX];exact zbl
 have zkX:=kX.lt;obtain⟨-,-,-,-,-,-,-,q7,-⟩:=zc11 kX;have y0:=zc kF 0;have zF:=kF.lt;have HC:=Lib.hid (cfJ_any a6 c6 s.dk.jobs (w.heap.size+1) f X (HS.out.ext BX) hf y0 zF)
 go_enter Tryz.func49,Tryz.ntmps49
 go_wp2_with fail;(try rw[hX]);clear hX;refine HC.out.mono ?_;rintro e1 w1 ⟨rfl,hb1⟩;go_wp2_with fail;go_ret;exact⟨rfl,BX.trans (hb1.mono BX.size)⟩
def RiPost(l:List Int)(w:World)(e:Ending)(w':World):Prop:=∃ A c,e=.returned (.slice A l.length c)∧SR intE w' A l∧Below w.heap.size w w'
theorem hinders_any(L:Lay)(s:Swp)(w:World)(h:SwA w L s)(hok:OkS s):Calls Tryz.prog 46 #[swV L s] w (RiPost (hinW s) w):=by
 obtain⟨a0,c0,a1,c1,a2,c2,a3,c3,a4,c4,a5,c5,a6,c6,a7,c7⟩:=L;have HS:=Lib.hid h;obtain⟨f0,f1,f2,f3,f4,f5,f6,f7⟩:=h.few;obtain⟨g1,hg1⟩:∃ b,decide ((s.wr.length:Int)≥s.cap)=b:=⟨_,rfl⟩;obtain⟨g2,hg2⟩:∃ b,decide (s.dk.room≤(s.dk.jobs.length:Int))=b:=⟨_,rfl⟩;obtain⟨g3,hg3⟩:∃ b,(fstT s.sl).isNone=b:=⟨_,rfl⟩
 have HIN:Hid (hinW s=(if g1=true then [(2:Int)] else [])++(if g2=true then [(3:Int)] else [])++(if g3=true then [(4:Int)] else [])):=by
  show _=_;unfold hinW;rw[←hg1,←hg2,←hg3];simp
 have hck:=chkD_zero hok.dk;have HL2:Hid ((chkD s.dk).1=0):=by show _=_;rw[hck]
 obtain⟨lft,hlft⟩:∃ n,(if (chkD s.dk).1≠0 then 0 else s.dk.room - s.dk.jobs.length)=n:=⟨_,rfl⟩;have HL1:=Lib.hid hlft
 have g2b:(lft == 0)=g2:=by
  rw[←hg2,←hlft,if_neg (by rw[hck];simp)];have:=hok.dk.few
  by_cases e:s.dk.room≤(s.dk.jobs.length:Int)
  ·rw[decide_eq_true e];simp;omega
  ·rw[decide_eq_false e];simp;omega
 obtain⟨fe,hfe⟩:∃ n,(firT s.sl).2=n:=⟨_,rfl⟩;have HF2:=Lib.hid hfe
 have g3b:(fe != 0)=g3:=by
  rw[←hg3,←hfe];unfold firT;rw[if_neg (by rw[chkT_zero hok.sl];simp)]
  cases fstT s.sl <;> simp
 clear h hok hck hlft hfe hg2 hg3;unfold swV swC;obtain⟨X,hX⟩:∃ X,w.alloc (.cells (zkx s a0 c0 a1 c1 a2 c2 a3 c3 a4 c4 a5 c5 a6 c6 a7 c7).toArray 35)=X:=⟨_,rfl⟩;have kX:Blk X w.heap.size 35 (zkx s a0 c0 a1 c1 a2 c2 a3 c3 a4 c4 a5 c5 a6 c6 a7 c7).toArray:=by rw[←hX];exact zbk
 have BX:Below w.heap.size w X:=by rw[←hX];exact zbl
 have HO:Hid (OwnR intE X (w.heap.size+1) (.slice none 0 0) []):=OwnR.nil
 go_enter Tryz.func46,Tryz.ntmps46
 have zkX:=kX.lt;obtain⟨q0,-,-,q3,-⟩:=zc11 kX
 cases g1 with
 | false=>
  go_upto_region 4 with fail;(try rw[hX]);clear hX;clear zkX q0 q3;have zkX:=kX.lt;obtain⟨-,-,-,-,-,-,q6,q7,q8,-⟩:=zc11 kX;go_wp2_with fail;refine (dLeft_any a5 a6 c5 c6 s.dk X (HS.out.sw.r6.ext BX) (by omega) (by omega)).mono ?_;rintro e1_ u11 ⟨rfl,hb1_⟩;have BXL:=zbt BX hb1_;replace kX:=kX.below_ hb1_ kX.lt;have HOL:Hid (OwnR intE u11 (w.heap.size+1) (.slice none 0 0) ([]:List Int)):=HO.out.ext hb1_;clear hb1_;clear zkX q6 q7 q8;rw[HL1.out,HL2.out]
  cases g2 with
  | false=>
   go_upto_region 7 with fail;have zkX:=kX.lt;obtain⟨-,q1,q2,-⟩:=zc11 kX;go_wp2_with fail;refine (sFirst_any a0 a1 c0 c1 s.sl u11 (HS.out.sw.r0.ext BXL) (HS.out.sw.r1.ext BXL) (by omega) (by omega)).mono ?_;rintro e2_ u22 ⟨rfl,hb2_⟩;have BXLL:=zbt BXL hb2_;replace kX:=kX.below_ hb2_ kX.lt;have HOLL:Hid (OwnR intE u22 (w.heap.size+1) (.slice none 0 0) ([]:List Int)):=HOL.out.ext hb2_;clear hb2_;clear zkX q1 q2;rw[HF2.out]
   cases g3 with
   | false=>
    go_wp2_with fail;go_ret;have HE:hinW s=([]:List Int):=by rw[HIN.out];rfl
    exact⟨none,0,by rw[HE];rfl,by rw[HE];exact(HOLL.out.sr).2,BXLL⟩
   | true=>
    go_upto_region 10 with (at_builtin;refine wpList_ownR intE rfl (.tmp 40) (.tmp 41) _ rfl rfl _ (w.heap.size+1) (by have:=kX.lt;simp;omega) none 0 0 ([]:List Int) rfl (HOLL.out.ext ((Below.refl _ _).alloc (Nat.le_refl _) _)) (some ⟨u22.heap.size,0,none⟩) 1 1 [(4:Int)] rfl (SR.of_blk (E:=intE) (l:=[(4:Int)]) (t:=3) (Blk.new_ rfl rfl)) (by simp) (by simp) rfl rfl ?_;rw[show (([]:List Int)++[(4:Int)]).length=1 from rfl];intro A2_2 c2_2 v2_2 hO_ hb_ hg_)
    have HOLLA:Hid (OwnR intE v2_2 (w.heap.size+1) (.slice A2_2 1 c2_2) ([(4:Int)]:List Int)):=hO_;have ha_:Below w.heap.size u22 v2_2:=(Below.alloc (Below.refl _ _) BXLL.size _).trans (hb_.mono (by omega));have BXLLA:Below w.heap.size w v2_2:=BXLL.trans ha_;replace kX:=(kX.alloc_ _).below_ hb_ (by omega);clear hO_ hb_ hg_ ha_;go_wp2_with fail;go_ret;have HE:hinW s=([(4:Int)]:List Int):=by rw[HIN.out];rfl
    exact⟨A2_2,c2_2,by rw[HE];rfl,by rw[HE];exact(HOLLA.out.sr).2,BXLLA⟩
  | true=>
   go_upto_region 7 with (at_builtin;refine wpList_ownR intE rfl (.tmp 29) (.tmp 30) _ rfl rfl _ (w.heap.size+1) (by have:=kX.lt;simp;omega) none 0 0 ([]:List Int) rfl (HOL.out.ext ((Below.refl _ _).alloc (Nat.le_refl _) _)) (some ⟨u11.heap.size,0,none⟩) 1 1 [(3:Int)] rfl (SR.of_blk (E:=intE) (l:=[(3:Int)]) (t:=3) (Blk.new_ rfl rfl)) (by simp) (by simp) rfl rfl ?_;rw[show (([]:List Int)++[(3:Int)]).length=1 from rfl];intro A1_1 c1_1 v1_1 hO_ hb_ hg_)
   have HOLA:Hid (OwnR intE v1_1 (w.heap.size+1) (.slice A1_1 1 c1_1) ([(3:Int)]:List Int)):=hO_;have ha_:Below w.heap.size u11 v1_1:=(Below.alloc (Below.refl _ _) BXL.size _).trans (hb_.mono (by omega));have BXLA:Below w.heap.size w v1_1:=BXL.trans ha_;replace kX:=(kX.alloc_ _).below_ hb_ (by omega);clear hO_ hb_ hg_ ha_;have zkX:=kX.lt;obtain⟨-,q1,q2,-⟩:=zc11 kX;go_wp2_with fail;refine (sFirst_any a0 a1 c0 c1 s.sl v1_1 (HS.out.sw.r0.ext BXLA) (HS.out.sw.r1.ext BXLA) (by omega) (by omega)).mono ?_;rintro e2_ u22 ⟨rfl,hb2_⟩;have BXLAL:=zbt BXLA hb2_;replace kX:=kX.below_ hb2_ kX.lt;have HOLAL:Hid (OwnR intE u22 (w.heap.size+1) (.slice A1_1 1 c1_1) ([(3:Int)]:List Int)):=HOLA.out.ext hb2_;clear hb2_;clear zkX q1 q2;rw[HF2.out]
   cases g3 with
   | false=>
    go_wp2_with fail;go_ret;have HE:hinW s=([(3:Int)]:List Int):=by rw[HIN.out];rfl
    exact⟨A1_1,c1_1,by rw[HE];rfl,by rw[HE];exact(HOLAL.out.sr).2,BXLAL⟩
   | true=>
    go_upto_region 10 with (at_builtin;refine wpList_ownR intE rfl (.tmp 40) (.tmp 41) _ rfl rfl _ (w.heap.size+1) (by have:=kX.lt;simp;omega) A1_1 c1_1 1 ([(3:Int)]:List Int) rfl (HOLAL.out.ext ((Below.refl _ _).alloc (Nat.le_refl _) _)) (some ⟨u22.heap.size,0,none⟩) 1 1 [(4:Int)] rfl (SR.of_blk (E:=intE) (l:=[(4:Int)]) (t:=3) (Blk.new_ rfl rfl)) (by simp) (by simp) rfl rfl ?_;rw[show (([(3:Int)]:List Int)++[(4:Int)]).length=2 from rfl];intro A2_2 c2_2 v2_2 hO_ hb_ hg_)
    have HOLALA:Hid (OwnR intE v2_2 (w.heap.size+1) (.slice A2_2 2 c2_2) ([(3:Int),(4:Int)]:List Int)):=hO_;have ha_:Below w.heap.size u22 v2_2:=(Below.alloc (Below.refl _ _) BXLAL.size _).trans (hb_.mono (by omega));have BXLALA:Below w.heap.size w v2_2:=BXLAL.trans ha_;replace kX:=(kX.alloc_ _).below_ hb_ (by omega);clear hO_ hb_ hg_ ha_;go_wp2_with fail;go_ret;have HE:hinW s=([(3:Int),(4:Int)]:List Int):=by rw[HIN.out];rfl
    exact⟨A2_2,c2_2,by rw[HE];rfl,by rw[HE];exact(HOLALA.out.sr).2,BXLALA⟩
 | true=>
  go_upto_region 3 with fail;(try rw[hX]);clear hX;clear zkX q0 q3
  go_upto_region 4 with (at_builtin;refine wpList_ownR intE rfl (.tmp 14) (.tmp 15) _ rfl rfl _ (w.heap.size+1) (by have:=kX.lt;simp;omega) none 0 0 ([]:List Int) rfl (HO.out.ext ((Below.refl _ _).alloc (Nat.le_refl _) _)) (some ⟨X.heap.size,0,none⟩) 1 1 [(2:Int)] rfl (SR.of_blk (E:=intE) (l:=[(2:Int)]) (t:=3) (Blk.new_ rfl rfl)) (by simp) (by simp) rfl rfl ?_;rw[show (([]:List Int)++[(2:Int)]).length=1 from rfl];intro A0_0 c0_0 v0_0 hO_ hb_ hg_)
  have HOA:Hid (OwnR intE v0_0 (w.heap.size+1) (.slice A0_0 1 c0_0) ([(2:Int)]:List Int)):=hO_;have ha_:Below w.heap.size X v0_0:=(Below.alloc (Below.refl _ _) BX.size _).trans (hb_.mono (by omega));have BXA:Below w.heap.size w v0_0:=BX.trans ha_;replace kX:=(kX.alloc_ _).below_ hb_ (by omega);clear hO_ hb_ hg_ ha_;have zkX:=kX.lt;obtain⟨-,-,-,-,-,-,q6,q7,q8,-⟩:=zc11 kX;go_wp2_with fail;refine (dLeft_any a5 a6 c5 c6 s.dk v0_0 (HS.out.sw.r6.ext BXA) (by omega) (by omega)).mono ?_;rintro e1_ u11 ⟨rfl,hb1_⟩;have BXAL:=zbt BXA hb1_;replace kX:=kX.below_ hb1_ kX.lt;have HOAL:Hid (OwnR intE u11 (w.heap.size+1) (.slice A0_0 1 c0_0) ([(2:Int)]:List Int)):=HOA.out.ext hb1_;clear hb1_;clear zkX q6 q7 q8;rw[HL1.out,HL2.out]
  cases g2 with
  | false=>
   go_upto_region 7 with fail;have zkX:=kX.lt;obtain⟨-,q1,q2,-⟩:=zc11 kX;go_wp2_with fail;refine (sFirst_any a0 a1 c0 c1 s.sl u11 (HS.out.sw.r0.ext BXAL) (HS.out.sw.r1.ext BXAL) (by omega) (by omega)).mono ?_;rintro e2_ u22 ⟨rfl,hb2_⟩;have BXALL:=zbt BXAL hb2_;replace kX:=kX.below_ hb2_ kX.lt;have HOALL:Hid (OwnR intE u22 (w.heap.size+1) (.slice A0_0 1 c0_0) ([(2:Int)]:List Int)):=HOAL.out.ext hb2_;clear hb2_;clear zkX q1 q2;rw[HF2.out]
   cases g3 with
   | false=>
    go_wp2_with fail;go_ret;have HE:hinW s=([(2:Int)]:List Int):=by rw[HIN.out];rfl
    exact⟨A0_0,c0_0,by rw[HE];rfl,by rw[HE];exact(HOALL.out.sr).2,BXALL⟩
   | true=>
    go_upto_region 10 with (at_builtin;refine wpList_ownR intE rfl (.tmp 40) (.tmp 41) _ rfl rfl _ (w.heap.size+1) (by have:=kX.lt;simp;omega) A0_0 c0_0 1 ([(2:Int)]:List Int) rfl (HOALL.out.ext ((Below.refl _ _).alloc (Nat.le_refl _) _)) (some ⟨u22.heap.size,0,none⟩) 1 1 [(4:Int)] rfl (SR.of_blk (E:=intE) (l:=[(4:Int)]) (t:=3) (Blk.new_ rfl rfl)) (by simp) (by simp) rfl rfl ?_;rw[show (([(2:Int)]:List Int)++[(4:Int)]).length=2 from rfl];intro A2_2 c2_2 v2_2 hO_ hb_ hg_)
    have HOALLA:Hid (OwnR intE v2_2 (w.heap.size+1) (.slice A2_2 2 c2_2) ([(2:Int),(4:Int)]:List Int)):=hO_;have ha_:Below w.heap.size u22 v2_2:=(Below.alloc (Below.refl _ _) BXALL.size _).trans (hb_.mono (by omega));have BXALLA:Below w.heap.size w v2_2:=BXALL.trans ha_;replace kX:=(kX.alloc_ _).below_ hb_ (by omega);clear hO_ hb_ hg_ ha_;go_wp2_with fail;go_ret;have HE:hinW s=([(2:Int),(4:Int)]:List Int):=by rw[HIN.out];rfl
    exact⟨A2_2,c2_2,by rw[HE];rfl,by rw[HE];exact(HOALLA.out.sr).2,BXALLA⟩
  | true=>
   go_upto_region 7 with (at_builtin;refine wpList_ownR intE rfl (.tmp 29) (.tmp 30) _ rfl rfl _ (w.heap.size+1) (by have:=kX.lt;simp;omega) A0_0 c0_0 1 ([(2:Int)]:List Int) rfl (HOAL.out.ext ((Below.refl _ _).alloc (Nat.le_refl _) _)) (some ⟨u11.heap.size,0,none⟩) 1 1 [(3:Int)] rfl (SR.of_blk (E:=intE) (l:=[(3:Int)]) (t:=3) (Blk.new_ rfl rfl)) (by simp) (by simp) rfl rfl ?_;rw[show (([(2:Int)]:List Int)++[(3:Int)]).length=2 from rfl];intro A1_1 c1_1 v1_1 hO_ hb_ hg_)
   have HOALA:Hid (OwnR intE v1_1 (w.heap.size+1) (.slice A1_1 2 c1_1) ([(2:Int),(3:Int)]:List Int)):=hO_;have ha_:Below w.heap.size u11 v1_1:=(Below.alloc (Below.refl _ _) BXAL.size _).trans (hb_.mono (by omega));have BXALA:Below w.heap.size w v1_1:=BXAL.trans ha_;replace kX:=(kX.alloc_ _).below_ hb_ (by omega);clear hO_ hb_ hg_ ha_;have zkX:=kX.lt;obtain⟨-,q1,q2,-⟩:=zc11 kX;go_wp2_with fail;refine (sFirst_any a0 a1 c0 c1 s.sl v1_1 (HS.out.sw.r0.ext BXALA) (HS.out.sw.r1.ext BXALA) (by omega) (by omega)).mono ?_;rintro e2_ u22 ⟨rfl,hb2_⟩;have BXALAL:=zbt BXALA hb2_;replace kX:=kX.below_ hb2_ kX.lt;have HOALAL:Hid (OwnR intE u22 (w.heap.size+1) (.slice A1_1 2 c1_1) ([(2:Int),(3:Int)]:List Int)):=HOALA.out.ext hb2_;clear hb2_;clear zkX q1 q2;rw[HF2.out]
   cases g3 with
   | false=>
    go_wp2_with fail;go_ret;have HE:hinW s=([(2:Int),(3:Int)]:List Int):=by rw[HIN.out];rfl
    exact⟨A1_1,c1_1,by rw[HE];rfl,by rw[HE];exact(HOALAL.out.sr).2,BXALAL⟩
   | true=>
    go_upto_region 10 with (at_builtin;refine wpList_ownR intE rfl (.tmp 40) (.tmp 41) _ rfl rfl _ (w.heap.size+1) (by have:=kX.lt;simp;omega) A1_1 c1_1 2 ([(2:Int),(3:Int)]:List Int) rfl (HOALAL.out.ext ((Below.refl _ _).alloc (Nat.le_refl _) _)) (some ⟨u22.heap.size,0,none⟩) 1 1 [(4:Int)] rfl (SR.of_blk (E:=intE) (l:=[(4:Int)]) (t:=3) (Blk.new_ rfl rfl)) (by simp) (by simp) rfl rfl ?_;rw[show (([(2:Int),(3:Int)]:List Int)++[(4:Int)]).length=3 from rfl];intro A2_2 c2_2 v2_2 hO_ hb_ hg_)
    have HOALALA:Hid (OwnR intE v2_2 (w.heap.size+1) (.slice A2_2 3 c2_2) ([(2:Int),(3:Int),(4:Int)]:List Int)):=hO_;have ha_:Below w.heap.size u22 v2_2:=(Below.alloc (Below.refl _ _) BXALAL.size _).trans (hb_.mono (by omega));have BXALALA:Below w.heap.size w v2_2:=BXALAL.trans ha_;replace kX:=(kX.alloc_ _).below_ hb_ (by omega);clear hO_ hb_ hg_ ha_;go_wp2_with fail;go_ret;have HE:hinW s=([(2:Int),(3:Int),(4:Int)]:List Int):=by rw[HIN.out];rfl
    exact⟨A2_2,c2_2,by rw[HE];rfl,by rw[HE];exact(HOALALA.out.sr).2,BXALALA⟩
theorem ownBlock_slice(A:Option Addr)(n c:Nat):Value.ownBlock (.slice A n c)=A.map (·.block):=by cases A <;> rfl
def Near(A:Option Addr)(c:Nat)(w:World)(A':Option Addr):Prop:=(A'.map (·.block)=A.map (·.block)∧c≠0) ∨ ∀ b,A'.map (·.block)=some b→w.heap.size≤b
theorem run_ownR2{α:Type}(E:Elt Tryz.prog α)(ty:TypeId)(w:World)(base:Nat)(hbase:base≤w.heap.size)(A:Option Addr)(c:Nat)(l:List α)(h:OwnR E w base (.slice A l.length c) l)(B:Option Addr)(d:Nat)(k:List α)(hk:SR E w B k)(hp:0<k.length)(hl:l.length+k.length≤10000) :
  ∃ A' c' w',(Builtin.append_ #[E.s,E.s] ty #[.slice A l.length c,.slice B k.length d]).run Tryz.prog w=.ok (.slice A' (l++k).length c') w'∧OwnR E w' base (.slice A' (l++k).length c') (l++k)∧w.grownBy w' (Value.ownBlock (.slice A l.length c))∧(A'.map (·.block)=A.map (·.block)∨A'.map (·.block)=some w.heap.size):=by
 obtain⟨i0,hi,hz0,hz1,hz2⟩:=info_parts E.hi;have hpos:=E.pos;obtain⟨hb1,hb2⟩:=E.few;obtain⟨b,off,rfl,hb,hc⟩:=hk (SR.len_pos hp);have hk':SR E w (some ⟨b,off,none⟩) k:=hk;obtain⟨v',w',hrun,h2,h3,_,h5⟩:=run_append_own_at (P:=Tryz.prog) w base E.s ty E.e i0 _ E.sz E.bytes E.hs hi hz0 hz1 hz2 E.hz hpos _ l.length (E.flat l) h ⟨b,off,none⟩ k.length d (E.flat k) (E.flat_length k) (SR.cells hk') (E.flat_cells k) (by unfold maxLen;omega) (by have:=Nat.mul_le_mul (show l.length+k.length≤10000 from hl) hb1;omega) hbase
 have hO:OwnR E w' base v' (l++k):=by
  unfold OwnR;rw[E.flat_append,List.length_append];exact h2
 have hv:∃ A' c',v'=.slice A' (l++k).length c':=by
  obtain⟨_,⟨e,hn⟩ | ⟨g,cap,cur,e,_⟩⟩:=hO
  ·exact⟨none,0,by rw[e,hn]⟩
  ·exact⟨_,_,e⟩
 obtain⟨A',c',rfl⟩:=hv;rw[ownBlock_slice,ownBlock_slice] at h5;exact⟨A',c',w',hrun,hO,h3,h5⟩
theorem run_appE2{α:Type}(E:Elt Tryz.prog α)(ty:TypeId)(w:World)(base:Nat)(hbase:base≤w.heap.size)(A:Option Addr)(c:Nat)(l:List α)(h:OwnE E w base A c l)(B:Option Addr)(d:Nat)(k:List α)(hk:SR E w B k)(hp:0<k.length)(hl:l.length+k.length≤10000) :
  ∃ A' c' w',(Builtin.append_ #[E.s,E.s] ty #[.slice A l.length c,.slice B k.length d]).run Tryz.prog w=.ok (.slice A' (l++k).length c') w'∧OwnE E w' base A' c' (l++k)∧Below base w w'∧KeptE A c w w'∧Near A c w A':=by
 have hne:l++k≠[]:=fun e=>by rw[(List.append_eq_nil_iff.1 e).2] at hp;simp at hp
 by_cases hc:c=0
 ·have hl0:l=[]:=by
   have:=h.cr.2;exact List.length_eq_zero_iff.1 (by omega)
  subst hl0 hc;obtain⟨A',c',w',hrun,h2,h3,h4⟩:=run_appR E ty w w.heap.size (Nat.le_refl _) A 0 [] (.inl ⟨rfl,SR.nil⟩) B d k hk hl;have ho:=(h4 (.inl rfl)).resolve_left hne;refine⟨A',c',w',hrun,⟨.inr (ho.base_ hbase),.inr (ho.base_ hbase)⟩,h3.mono hbase,fun b hb _=>h3.block b hb,.inr fun b hb => ?_⟩;obtain⟨_,⟨e,hn⟩ | ⟨g,cap,cur,e,hg,_⟩⟩:=ho
  ·exact absurd (List.length_eq_zero_iff.1 hn) hne
  ·injection e with e
   subst e;simp at hb;omega
 ·have h1:=h.row hc
  obtain⟨g,e,hg1,hg2⟩:=h.blk hc;obtain⟨A',c',w',hrun,h2,h4,h5⟩:=run_ownR2 E ty w base hbase A c l h1 B d k hk hp hl;refine⟨A',c',w',hrun,⟨.inr h2,.inr h2⟩,?_,fun b hb hn=>h4.block b hb ?_,?_⟩
  ·refine (Below.refl base w).grown h4 hbase (fun r er => ?_)
   subst e;simp[Value.ownBlock] at er;omega
  ·have:=hn hc
   subst e;intro e;exact this (by simpa [Value.ownBlock] using e.symm)
  ·rcases h5 with h5 | h5
   ·exact .inl ⟨h5,hc⟩
   ·exact .inr fun b hb=>by rw[h5] at hb;injection hb with hb;omega
theorem wpList_appE2{α:Type}(E:Elt Tryz.prog α){ops:Array Oper}{rest:List Oper}{o:Oper}{a:Act}{Q:Exit→Act→World→Prop}(hgd:o.guard=none)(s x:Operand)(t:TypeId)(ht:t=E.s)
  (ho:o.op=.call { callee:=.builtin .append,args:=#[s,x],argTypes:=#[t,t] })
  (w:World) (base:Nat) (hbase:base≤w.heap.size) (A:Option Addr) (c n:Nat) (l:List α) (hn:n=l.length) (h:OwnE E w base A c l) (B:Option Addr) (d n':Nat) (k:List α) (hn':n'=k.length) (hk:SR E w B k) (hp:0<k.length) (hl:l.length+k.length≤10000)
  (hs:a.eval s=.slice A n c) (hx:a.eval x=.slice B n' d)
  (hK:∀ A' c' w',OwnE E w' base A' c' (l++k)→Below base w w'→KeptE A c w w'→Near A c w A'→wpList Tryz.prog ops Q rest (a.put o.dst (.slice A' (l++k).length c')) w'):wpList Tryz.prog ops Q (o::rest) a w:=by
 subst hn hn' ht
 refine wpList_plain hgd fun K' hK' => ?_
 obtain⟨A',c',w',hrun,h2,h3,h4,h5⟩:=run_appE2 E o.type w base hbase A c l h B d k hk hp hl;unfold Oper.wp execOp;simp only[ho,resolve,invoke,builtin,Sem.run_bind,Sem.run_pure,Result.andThen_ok,List.map_toArray,List.map_cons,List.map_nil,hs,hx,hrun];exact hK' _ _ (hK A' c' w' h2 h3 h4 h5)
theorem Part.near{α:Type}{E:Elt Tryz.prog α}{w:World}{base:Nat}{A A' A2:Option Addr}{c c' c2:Nat}{l:List α}(hp:Part A c A' c')(h:OwnE E w base A c l)(hn:Near A' c' w A2):Part A c A2 c2:=fun hc hc' e=>by
 obtain⟨g,e1,_,h2⟩:=h.blk hc
 rcases hn with ⟨e3,h3⟩ | hn
 ·exact hp hc h3 (e.trans e3)
 ·subst e1
  have:=hn g (by rw[←e];rfl);omega
theorem SwO.farB{w:World}{base B:Nat}{L:Lay}{s:Swp}{cs:Array Value}(h:SwO w base L s)(hb:Blk w B 87 cs)(i:Nat)(u:Value):SwO (w.setCell ⟨B,i,none⟩ u) base L s:=
 ⟨h.o0.farB hb (by decide) i u,h.o1.farB hb (by decide) i u,h.o2.farB hb (by decide) i u,h.o3.farB hb (by decide) i u,h.o4.farB hb (by decide) i u,h.o5.farB hb (by decide) i u,h.o6.farB hb (by decide) i u,h.o7.farB hb (by decide) i u,h.p0,h.p7⟩
structure SwO' (w:World) (base:Nat) (L:Lay) (s:Swp):Prop where
 o0:OwnE intE w base L.a0 L.c0 s.sl.refs
 o1:OwnE boolE w base L.a1 L.c1 s.sl.busy
 o2:OwnM wrE w base L.a2 L.c2 s.wr
 o3:OwnE rdE w base L.a3 L.c3 s.rd
 o5:OwnE ctE w base L.a5 L.c5 s.dk.cells
 o6:OwnE jbE w base L.a6 L.c6 s.dk.jobs
 o7:OwnE intE w base L.a7 L.c7 s.po.free
theorem SwO.keptD{w w':World}{base:Nat}{L:Lay}{s:Swp}(h:SwO w base L s)(hk:KeptE L.a4 L.c4 w w'):SwO' w' base L s:=
 ⟨h.o0.keptP h.p0 hk,h.o1.keptT h.o4 (by decide) hk,h.o2.keptT h.o4 (by decide) hk,h.o3.keptT h.o4 (by decide) hk,h.o5.keptT h.o4 (by decide) hk,h.o6.keptT h.o4 (by decide) hk,h.o7.keptP h.p7 hk⟩
theorem SwO.keptR{w w':World}{base:Nat}{L:Lay}{s:Swp}(h:SwO w base L s)(hk:KeptE L.a3 L.c3 w w'){A:Option Addr}{c:Nat}{l:List Wr}(ho:OwnE rdE w' base A c l):SwO w' base { L with a3:=A,c3:=c } { s with rd:=l }:=
 ⟨h.o0.keptT h.o3 (by decide) hk,h.o1.keptT h.o3 (by decide) hk,h.o2.keptT h.o3 (by decide) hk,ho,h.o4.keptT h.o3 (by decide) hk,h.o5.keptT h.o3 (by decide) hk,h.o6.keptT h.o3 (by decide) hk,h.o7.keptT h.o3 (by decide) hk,h.p0,h.p7⟩
theorem OwnE.notT{α:Type}{E:Elt Tryz.prog α}{w:World}{base:Nat}{A:Option Addr}{c:Nat}{l:List α}(h:OwnE E w base A c l){b:Nat}{t:TypeId}{cs:Array Value}(hb:Blk w b t cs)(ht:E.e≠t):c≠0→A.map (·.block)≠some b:=fun hc e=>by
 obtain⟨_,⟨e2,_⟩ | ⟨g,cap,cur,e2,hg,hb',hr⟩⟩:=h.row hc
 ·injection e2 with _ _ e2;exact absurd e2 hc
 ·injection e2 with e2
  subst e2;simp at e;subst e;unfold Blk at hb;rw[hb'] at hb;injection hb with hb
  injection hb with _ hb
  exact ht hb
theorem take_any(base B:Nat)(L:Lay)(s:Swp)(w:World)(h:WkAt w base B L s)(hok:OkP s.po){d:Int}{l:List Int}(hfr:s.po.free=d::l)(hdl:s.desc.length≤1000) :
  Calls Tryz.prog 113 #[.pointer (some ⟨B,0,none⟩)] w fun e w'=>e=.returned (.int .i64 0)∧(∃ L',WkAt w' base B L' (describeW s))∧Below base w w':=by
 obtain⟨a0,c0,a1,c1,a2,c2,a3,c3,a4,c4,a5,c5,a6,c6,a7,c7⟩:=L;obtain⟨hB,hO,hlow⟩:=h;have kB:Blk w B 87 (zkx s a0 c0 a1 c1 a2 c2 a3 c3 a4 c4 a5 c5 a6 c6 a7 c7).toArray:=hB;have HO:=Lib.hid hO;have HT:=Lib.hid (tkP_ok hok hfr).1;have hbl:base≤w.heap.size:=by have:=kB.lt;omega
 have hC:=pTake_any a7 c7 s.po w hO.o7.sr (by have:=hok.len;omega);rw[HT.out] at hC;have HC:=Lib.hid hC;clear hB hO hC hok hfr;have zB:=kB.lt;obtain⟨-,-,-,-,-,-,-,-,-,q9,q10⟩:=zc11 kB
 go_enter Tryz.func113,Tryz.ntmps113
 go_wp2_with fail;refine HC.out.mono ?_;rintro e1 w1 ⟨A,c,rfl,ho,hb1⟩;dsimp only at ho;unfold poV;dsimp only;have kB1:=kB.below_ hb1 zB;have zB1:=kB1.lt
 have M1:SwO w1 base ⟨a0,c0,a1,c1,a2,c2,a3,c3,a4,c4,a5,c5,a6,c6,A,c⟩ { s with po:=⟨s.po.size,l⟩ }:=
  have x:=HO.out.ext hb1
  ⟨x.o0,x.o1,x.o2,x.o3,x.o4,x.o5,x.o6,ho.base_ hbl,x.p0,(HO.out.o4.part ho (Nat.le_refl _)).symm⟩
 clear q9 q10 ho;obtain⟨-,-,-,-,-,-,-,-,-,q9,q10⟩:=zc11 kB1;obtain⟨-,-,-,-,-,-,-,-,-,qf9,qf10,-⟩:=zf kB1;go_upto_region 3 with fail;obtain⟨W2,hW2⟩:∃ W2,(w1.setCell ⟨B,9,none⟩ (.int .i64 s.po.size)).setCell ⟨B,10,none⟩ (.slice A l.length c)=W2:=⟨_,rfl⟩;have kB2:Blk W2 B 87 #[.int .i64 s.cap,.slice a0 s.sl.refs.length c0,.slice a1 s.sl.busy.length c1,.slice a2 s.wr.length c2,.slice a3 s.rd.length c3,.slice a4 s.desc.length c4,.slice a5 s.dk.cells.length c5,.slice a6 s.dk.jobs.length c6,.int .i64 s.dk.room,.int .i64 s.po.size,.slice A l.length c]:=by rw[←hW2];exact(kB1.set_ 9 _).set_ 10 _
 have M2:SwO W2 base ⟨a0,c0,a1,c1,a2,c2,a3,c3,a4,c4,a5,c5,a6,c6,A,c⟩ { s with po:=⟨s.po.size,l⟩ }:=by rw[←hW2];exact(M1.farB kB1 9 _).farB (kB1.set_ 9 _) 10 _
 have B2:Below base w W2:=by rw[←hW2];exact((hb1.mono hbl).setCell (p:=⟨B,9,none⟩) hlow _).setCell (p:=⟨B,10,none⟩) hlow _
 rw[hW2];clear hW2 q9 q10 qf9 qf10 M1 kB1 hb1;have zB2:=kB2.lt;have hb2:base≤W2.heap.size:=by omega
 obtain⟨-,-,-,-,-,q5,-⟩:=zc11 kB2;have qf5:=kB2.frozen_ 5;have BA:Below W2.heap.size W2 (W2.alloc (.cells #[.int .i64 d] 3)):=(Below.refl _ _).alloc (Nat.le_refl _) _;have M3:=M2.ext BA;have kB3:=kB2.below_ BA zB2;have HN:=M3.o4.notT kB3 (by decide);have HM3:=Lib.hid M3;have HKB3:=Lib.hid kB3;have HNN:=Lib.hid HN;clear HN M3 kB3
 go_upto_region 5 with (at_builtin;refine wpList_appE2 intE rfl (.tmp 25) (.tmp 27) _ rfl rfl _ base (Nat.le_trans hb2 BA.size) a4 c4 s.desc.length s.desc rfl HM3.out.o4 (some ⟨W2.heap.size,0,none⟩) 1 1 [d] rfl (SR.of_blk (E:=intE) (l:=[d]) (t:=3) (Blk.new_ rfl rfl)) (Nat.zero_lt_one) (by show s.desc.length+1≤10000;omega) rfl rfl ?_;rw[show (s.desc++[d]).length=s.desc.length+1 from by simp];intro A5 cc5 w5 hO5 hb5 hk5 hn5;have kB5:=hk5.blk HKB3.out HNN.out;have zB5:=kB5.lt;have qq5:w5.cell? ⟨B,5,none⟩=some (.slice a4 s.desc.length c4):=(by simpa using kB5.cell_ 5);have qqf5:=kB5.frozen_ 5)
 have M5:=HM3.out.keptD hk5;have p05:=HM3.out.p0.near (c2:=cc5) HM3.out.o0 hn5;have p75:=HM3.out.p7.near (c2:=cc5) HM3.out.o7 hn5;have B5:Below base w w5:=(B2.trans (BA.mono hb2)).trans hb5;have HE:Hid (describeW s={ s with po:=⟨s.po.size,l⟩,desc:=s.desc++[d] }):=by show _=_;unfold describeW;rw[HT.out]
 have M6:SwO (w5.setCell ⟨B,5,none⟩ (.slice A5 (s.desc.length+1) cc5)) base ⟨a0,c0,a1,c1,a2,c2,a3,c3,A5,cc5,a5,c5,a6,c6,A,c⟩ (describeW s):=by
  rw[HE.out];exact SwO.farB (s:={ s with po:=⟨s.po.size,l⟩,desc:=s.desc++[d] }) (L:=⟨a0,c0,a1,c1,a2,c2,a3,c3,A5,cc5,a5,c5,a6,c6,A,c⟩) ⟨M5.o0,M5.o1,M5.o2,M5.o3,hO5,M5.o5,M5.o6,M5.o7,p05,p75⟩ kB5 5 _
 have k6:Blk (w5.setCell ⟨B,5,none⟩ (.slice A5 (s.desc.length+1) cc5)) B 87 (swC ⟨a0,c0,a1,c1,a2,c2,a3,c3,A5,cc5,a5,c5,a6,c6,A,c⟩ (describeW s)).toArray:=by
  rw[HE.out];have:=kB5.set_ 5 (.slice A5 (s.desc.length+1) cc5);unfold swC;dsimp only;rw[show (s.desc++[d]).length=s.desc.length+1 from by simp];exact this
 go_wp2_with fail;go_ret;exact⟨rfl,⟨⟨a0,c0,a1,c1,a2,c2,a3,c3,A5,cc5,a5,c5,a6,c6,A,c⟩,⟨k6,M6,hlow⟩⟩,B5.setCell (p:=⟨B,5,none⟩) hlow _⟩
section
variable {w w1 : World} {base B : Nat} {L : Lay} {s : Swp}
theorem WkAt.lt(h:WkAt w base B L s):B<w.heap.size:=h.blk.lt
theorem WkAt.slots(h:WkAt w base B L s)(hb1:Below w.heap.size w w1){A A':Option Addr}{c c':Nat}{T:Sts}(oI:OwnE intE w1 w.heap.size A c T.refs)(oB:OwnE boolE w1 w.heap.size A' c' T.busy) :
  WkAt ((w1.setCell ⟨B,1,none⟩ (.slice A T.refs.length c)).setCell ⟨B,2,none⟩ (.slice A' T.busy.length c')) base B { L with a0:=A,c0:=c,a1:=A',c1:=c' } { s with sl:=T }:=by
 have hk:=h.blk.below_ hb1 h.lt;have hlb:base≤w.heap.size:=by have:=h.lt;have:=h.low;omega
 have x:=h.own.ext hb1
 have m:SwO w1 base { L with a0:=A,c0:=c,a1:=A',c1:=c' } { s with sl:=T }:=
  ⟨oI.base_ hlb,oB.base_ hlb,x.o2,x.o3,x.o4,x.o5,x.o6,x.o7,(h.own.o4.part oI (Nat.le_refl _)).symm,x.p7⟩
 exact⟨(hk.set_ 1 _).set_ 2 _,(m.farB hk 1 _).farB (hk.set_ 1 _) 2 _,h.low⟩
theorem WkAt.disk(h:WkAt w base B L s)(hb1:Below w.heap.size w w1){A A':Option Addr}{c c':Nat}{D:Dsk}(oI:OwnE ctE w1 w.heap.size A c D.cells)(oB:OwnE jbE w1 w.heap.size A' c' D.jobs) :
  WkAt (((w1.setCell ⟨B,6,none⟩ (.slice A D.cells.length c)).setCell ⟨B,7,none⟩ (.slice A' D.jobs.length c')).setCell ⟨B,8,none⟩ (.int .i64 D.room)) base B { L with a5:=A,c5:=c,a6:=A',c6:=c' } { s with dk:=D }:=by
 have hk:=h.blk.below_ hb1 h.lt;have hlb:base≤w.heap.size:=by have:=h.lt;have:=h.low;omega
 have x:=h.own.ext hb1
 have m:SwO w1 base { L with a5:=A,c5:=c,a6:=A',c6:=c' } { s with dk:=D }:=
  ⟨x.o0,x.o1,x.o2,x.o3,x.o4,oI.base_ hlb,oB.base_ hlb,x.o7,x.p0,x.p7⟩
 exact⟨((hk.set_ 6 _).set_ 7 _).set_ 8 _,((m.farB hk 6 _).farB (hk.set_ 6 _) 7 _).farB ((hk.set_ 6 _).set_ 7 _) 8 _,h.low⟩
theorem WkAt.writes(h:WkAt w base B L s)(hb1:Below w.heap.size w w1){A:Option Addr}{c:Nat}{l:List Wr}(oI:OwnM wrE w1 w.heap.size A c l) :
  WkAt (w1.setCell ⟨B,3,none⟩ (.slice A l.length c)) base B { L with a2:=A,c2:=c } { s with wr:=l }:=by
 have hk:=h.blk.below_ hb1 h.lt;have hlb:base≤w.heap.size:=by have:=h.lt;have:=h.low;omega
 have x:=h.own.ext hb1
 have m:SwO w1 base { L with a2:=A,c2:=c } { s with wr:=l }:=
  ⟨x.o0,x.o1,oI.base_ hlb,x.o3,x.o4,x.o5,x.o6,x.o7,x.p0,x.p7⟩
 exact⟨hk.set_ 3 _,m.farB hk 3 _,h.low⟩
theorem WkAt.pool(h:WkAt w base B L s)(hb1:Below w.heap.size w w1){A:Option Addr}{c:Nat}{p:Pol}(oI:OwnE intE w1 w.heap.size A c p.free) :
  WkAt ((w1.setCell ⟨B,9,none⟩ (.int .i64 p.size)).setCell ⟨B,10,none⟩ (.slice A p.free.length c)) base B { L with a7:=A,c7:=c } { s with po:=p }:=by
 have hk:=h.blk.below_ hb1 h.lt;have hlb:base≤w.heap.size:=by have:=h.lt;have:=h.low;omega
 have x:=h.own.ext hb1
 have m:SwO w1 base { L with a7:=A,c7:=c } { s with po:=p }:=
  ⟨x.o0,x.o1,x.o2,x.o3,x.o4,x.o5,x.o6,oI.base_ hlb,x.p0,(h.own.o4.part oI (Nat.le_refl _)).symm⟩
 exact⟨(hk.set_ 9 _).set_ 10 _,(m.farB hk 9 _).farB (hk.set_ 9 _) 10 _,h.low⟩
theorem WkAt.reads(h:WkAt w base B L s)(hb1:Below base w w1)(hk1:KeptE L.a3 L.c3 w w1){A:Option Addr}{c:Nat}{l:List Wr}(oI:OwnE rdE w1 base A c l) :
  WkAt (w1.setCell ⟨B,4,none⟩ (.slice A l.length c)) base B { L with a3:=A,c3:=c } { s with rd:=l }:=by
 have hk:=hk1.blk h.blk (h.own.o3.notT h.blk (by decide));have m:=h.own.keptR hk1 oI;exact⟨hk.set_ 4 _,m.farB hk 4 _,h.low⟩
end
def DkF(D:Dsk)(v:Value)(lo _hi:Nat)(w:World):Prop:=∃ A c A' c',v=.tuple #[dkV A c A' c' D,.int .i64 0]∧OwnE ctE w lo A c D.cells∧OwnE jbE w lo A' c' D.jobs
theorem DkF.lasts(D:Dsk):(Fk.has (DkF D)).lasts:=fun _ _ _ _ _ ⟨A,c,A',c',e,h,h'⟩ hb=>⟨A,c,A',c',e,h.ext hb,h'.ext hb⟩
theorem write_any(base B:Nat)(L:Lay)(s:Swp)(f r:Int)(x:Ct)(w:World)(h:WkAt w base B L s)(hf:Few s)(hok:OkP s.po){T:Sts}{i:Nat}{D:Dsk}{W:List Wr}{d:Int}{l:List Int}
  (h1:alcT s.sl r=(T,(i:Int),0)) (h2:addD s.dk ⟨true,i,f,x⟩=(D,0)) (h3:addS s.wr i f=(W,0)) (hfr:s.po.free=d::l) :
  Calls Tryz.prog 51 #[.pointer (some ⟨B,0,none⟩),.int .i64 f,.int .i64 r,ctV x] w fun e w'=>e=.returned (.tuple #[.int .i64 i,.int .i64 0])∧(∃ L',WkAt w' base B L' (describeW { s with sl:=T,dk:=D,wr:=W }))∧Below base w w':=by
 obtain⟨a0,c0,a1,c1,a2,c2,a3,c3,a4,c4,a5,c5,a6,c6,a7,c7⟩:=L;obtain⟨f0,f1,f2,f3,f4,f5,f6,f7⟩:=hf;have H1:=Lib.hid h1;have H2:=Lib.hid h2;have H3:=Lib.hid h3;have HOK:=Lib.hid hok;have HFR:=Lib.hid hfr;have hlow:=h.low;have hbw:base≤w.heap.size:=by have:=h.lt;omega
 unfold ctV ctC;obtain⟨X,hX⟩:∃ X,w.alloc (.cells (zkk x.c0 x.c1 x.c2 x.c3 x.c4 x.c5 x.c6 x.c7).toArray 38)=X:=⟨_,rfl⟩;have BX:Below w.heap.size w X:=by rw[←hX];exact zbl
 have kX:=za hX;have K:=h.ext BX;have HK:=Lib.hid K;have kB:Blk X B 87 (zkx s a0 c0 a1 c1 a2 c2 a3 c3 a4 c4 a5 c5 a6 c6 a7 c7).toArray:=K.blk;have hC:=sAlloc_any a0 a1 c0 c1 s.sl r X K.own.o0.sr K.own.o1.sr f0 f1;rw[h1] at hC;have HC:=Lib.hid hC;clear h1 h2 h3 hok hfr h hC K;have zB:=kB.lt;have hbX:base≤X.heap.size:=Nat.le_trans hbw BX.size;obtain⟨-,q1,q2,-⟩:=zc11 kB
 go_enter Tryz.func51,Tryz.ntmps51
 go_wp2_with fail;(try rw[hX]);clear hX;refine HC.out.mono ?_;rintro e1 w1 ⟨A,c,B1,d1,rfl,oI,oB,hb1⟩;unfold stV;dsimp only;have kB1:=kB.below_ hb1 zB;have zB1:=kB1.lt;have kX1:=kX.below_ hb1 kX.lt;clear q1 q2;obtain⟨-,q1,q2,-⟩:=zc11 kB1;obtain⟨-,qf1,qf2,-⟩:=zf kB1;go_upto_region 4 with fail;obtain⟨W2,hW2⟩:∃ W2,(w1.setCell ⟨B,1,none⟩ (.slice A T.refs.length c)).setCell ⟨B,2,none⟩ (.slice B1 T.busy.length d1)=W2:=⟨_,rfl⟩;have K2:WkAt W2 base B ⟨A,c,B1,d1,a2,c2,a3,c3,a4,c4,a5,c5,a6,c6,a7,c7⟩ { s with sl:=T }:=by rw[←hW2];exact HK.out.slots hb1 oI oB
 have HK2:=Lib.hid K2;have kB2:Blk W2 B 87 #[.int .i64 s.cap,.slice A T.refs.length c,.slice B1 T.busy.length d1,.slice a2 s.wr.length c2,.slice a3 s.rd.length c3,.slice a4 s.desc.length c4,.slice a5 s.dk.cells.length c5,.slice a6 s.dk.jobs.length c6,.int .i64 s.dk.room,.int .i64 s.po.size,.slice a7 s.po.free.length c7]:=K2.blk;have B2:Below base w W2:=by rw[←hW2];exact(((BX.mono hbw).trans (hb1.mono hbX)).setCell (p:=⟨B,1,none⟩) hlow _).setCell (p:=⟨B,2,none⟩) hlow _
 have kX2:Blk W2 w.heap.size 38 (zkk x.c0 x.c1 x.c2 x.c3 x.c4 x.c5 x.c6 x.c7).toArray:=by
  have hne:B≠w.heap.size:=by
   intro e;have:=HK.out.blk;rw[e] at this;unfold Blk at this kX;rw[kX] at this
   cases this
  rw[←hW2];exact(kX1.far_ (p:=⟨B,1,none⟩) hne.symm _).far_ (p:=⟨B,2,none⟩) hne.symm _
 rw[hW2];clear hW2 K2 q1 q2 qf1 qf2 hb1 oI oB kB1 kX1;have zB2:=kB2.lt;have hb2:base≤W2.heap.size:=by omega
 have hD:∀ V,Below W2.heap.size W2 V→_:=fun V hV=>dWrite_any a5 a6 c5 c6 s.dk i f x V (HK2.out.own.o5.sr.ext hV) (HK2.out.own.o6.sr.ext hV) f5 f6
 rw[H2.out] at hD;have HD4:=Lib.hid hD;clear hD;refine zrg [0,0,0,0,0,1,0,0,1,2,0,0,0,0,0,0,3,0] [[],[],[],[],[],[],[],[],[],[],[9],[10],[10],[],[],[],[],[12]] [.is ?_,.is ?_,.is ?_,.is ?_,.is ?_,.kn ?_,.is ?_,.is ?_,.kn ?_,.has (DkF D),.fn [9] fst_,.fn [10] (fun l=>tupAt (fst_ l) 0),.fn [10] (fun l=>tupAt (fst_ l) 1),.is ?_,.is ?_,.is ?_,.late,.fn [12] fst_] [16] (lts_is (lts_is (lts_is (lts_is (lts_is (lts_kn (lts_is (lts_is (lts_kn (lts_has (DkF.lasts D) (lts_fn (lts_fn (lts_fn (lts_is (lts_is (lts_is (lts_late (lts_fn lts_nil)))))))))))))))))) (fun W0 hb0 hz0 => ?_)
 rotate_left 12
 have kW:=kB2.below_ hb0 kB2.lt;have kY:=kX2.below_ hb0 kX2.lt;have zW:=kW.lt;have zY:=kY.lt;obtain⟨-,-,-,-,-,-,p6,p7,p8,-⟩:=zc11 kW;obtain⟨y0,y1,y2,y3,y4,y5,y6,y7⟩:=zc8 kY;refine zqp ?_;refine zqp ?_;refine zqp ?_;refine zqp ?_;refine zqp ?_;refine zqT (fun w hbw hd => ?_) ?_
 ·have r6:=cell_keep hbw p6 zW
  have r7:=cell_keep hbw p7 zW;have r8:=cell_keep hbw p8 zW;exact zgs
 refine zqp ?_;refine zqp ?_;refine zqT (fun w hbw hd => ?_) ?_
 ·have r0:=cell_keep hbw y0 zY
  have r1:=cell_keep hbw y1 zY;have r2:=cell_keep hbw y2 zY;have r3:=cell_keep hbw y3 zY;have r4:=cell_keep hbw y4 zY;have r5:=cell_keep hbw y5 zY;have r6:=cell_keep hbw y6 zY;have r7:=cell_keep hbw y7 zY;exact zgs
 refine zqh (fun w hbw hd K Q' hK => ?_) (fun vwd9 => ?_)
 ·clear hd
  go_simp;refine (HD4.out _ (hb0.trans (hbw.mono hb0.size))).mono ?_;rintro e y ⟨A6,d6,A7,d7,rfl,oC,oJ,hy⟩;go_wp2_with fail;exact hK.out (.tuple #[dkV A6 d6 A7 d7 D,.int .i64 0]) _ _ zpt zbm ⟨A6,d6,A7,d7,rfl,oC,oJ⟩
 refine zqf (vwd9) ?_;refine zqF (tupAt (vwd9) 0) (fun w0 hd w => ?_) ?_
 ·obtain⟨_,_,A6,d6,A7,d7,rfl,_⟩:∃ lo hi,DkF D vwd9 lo hi w0:=hd 9 _ _ (by kernel_rfl) rfl rfl
  exact zsr
 refine zqF (tupAt (vwd9) 1) (fun w0 hd w => ?_) ?_
 ·obtain⟨_,_,A6,d6,A7,d7,rfl,_⟩:∃ lo hi,DkF D vwd9 lo hi w0:=hd 9 _ _ (by kernel_rfl) rfl rfl
  exact zsr
 refine zqp ?_;refine zqp ?_;refine zqp ?_;refine zql ?_;refine zqf (tupAt (vwd9) 1) ?_;refine chn_end (fun wz lo hi hbz hd hR => ?_);obtain⟨A6,d6,A7,d7,rfl,oC,oJ⟩:DkF D vwd9 (lo 9) (hi 9) wz:=hd 9 _ _ rfl rfl;have r9:=(hR.2 9 _ rfl).1;have hsz:=hb0.size;have BZ:Below W2.heap.size W2 wz:=hb0.trans (hbz.mono hsz);have kBz:=kB2.below_ BZ kB2.lt;have zBz:=kBz.lt;clear hd hR p6 p7 p8 y0 y1 y2 y3 y4 y5 y6 y7;obtain⟨-,-,-,-,-,-,m6,m7,m8,-⟩:=zc11 kBz;obtain⟨-,-,-,-,-,-,mf6,mf7,mf8,-⟩:=zf kBz;unfold dkV;simp only[tupAt,List.getD_cons_succ,List.getD_cons_zero,Array.getD_eq_getD_getElem?,zy5,zy6,zy7,Option.getD_some];refine late_one (by simp only[zy5,zy6,zy7];rfl) (fun K Q' hK => ?_);go_simp;refine hK.out _ ?_;clear hK K Q';obtain⟨W3,hW3⟩:∃ W3,((wz.setCell ⟨B,6,none⟩ (.slice A6 D.cells.length d6)).setCell ⟨B,7,none⟩ (.slice A7 D.jobs.length d7)).setCell ⟨B,8,none⟩ (.int .i64 D.room)=W3:=⟨_,rfl⟩;have K3:WkAt W3 base B ⟨A,c,B1,d1,a2,c2,a3,c3,a4,c4,A6,d6,A7,d7,a7,c7⟩ { s with sl:=T,dk:=D }:=by rw[←hW3];exact HK2.out.disk BZ (oC.base_ (by omega)) (oJ.base_ (by omega))
 have HK3:=Lib.hid K3;have kB3:Blk W3 B 87 #[.int .i64 s.cap,.slice A T.refs.length c,.slice B1 T.busy.length d1,.slice a2 s.wr.length c2,.slice a3 s.rd.length c3,.slice a4 s.desc.length c4,.slice A6 D.cells.length d6,.slice A7 D.jobs.length d7,.int .i64 D.room,.int .i64 s.po.size,.slice a7 s.po.free.length c7]:=K3.blk;have B3:Below base w W3:=by rw[←hW3];exact(((B2.trans (BZ.mono hb2)).setCell (p:=⟨B,6,none⟩) hlow _).setCell (p:=⟨B,7,none⟩) hlow _).setCell (p:=⟨B,8,none⟩) hlow _
 rw[hW3];clear hW3 K3 m6 m7 m8 mf6 mf7 mf8 oC oJ r9 kBz;have zB3:=kB3.lt;have hb3:base≤W3.heap.size:=by omega
 obtain⟨-,-,-,q3,-⟩:=zc11 kB3;have hA:=Add_own a2 c2 s.wr i f W3 ⟨HK3.out.own.o2.sr.sw,HK3.out.own.o2.len⟩ f2;rw[H3.out] at hA;have HA:=Lib.hid hA;clear hA;go_wp2_with fail;refine HA.out.mono ?_;rintro e4 w4 ⟨A3,d3,rfl,hcw,hb4,hmine⟩;dsimp only at hcw hmine;dsimp only;have hlen:=hcw.2;have kB4:=kB3.below_ hb4 zB3;have zB4:=kB4.lt;clear q3 hcw;obtain⟨-,-,-,q3,-⟩:=zc11 kB4;have qf3:=kB4.frozen_ 3;go_upto_region 10 with fail;obtain⟨W4,hW4⟩:∃ W4,w4.setCell ⟨B,3,none⟩ (.slice A3 W.length d3)=W4:=⟨_,rfl⟩;have K4:WkAt W4 base B ⟨A,c,B1,d1,A3,d3,a3,c3,a4,c4,A6,d6,A7,d7,a7,c7⟩ { s with sl:=T,dk:=D,wr:=W }:=by rw[←hW4];exact HK3.out.writes hb4 (OwnM.of_mine hmine hlen)
 have B4:Below base w W4:=by rw[←hW4];exact(B3.trans (hb4.mono hb3)).setCell (p:=⟨B,3,none⟩) hlow _
 rw[hW4];clear hW4 q3 qf3;have hT:=Lib.hid (take_any base B ⟨A,c,B1,d1,A3,d3,a3,c3,a4,c4,A6,d6,A7,d7,a7,c7⟩ { s with sl:=T,dk:=D,wr:=W } W4 K4 HOK.out HFR.out f4);go_wp2_with fail;refine hT.out.mono ?_;rintro e5 w5 ⟨rfl,⟨L5,K5⟩,hb5⟩;have HK5:=Lib.hid K5;clear K5 K4;go_wp2_with fail;refine bodyPost_ret (by simp[results,Tryz.results51,go_sem] <;> rfl) rfl ?_;exact⟨rfl,⟨L5,HK5.out⟩,B4.trans hb5⟩
end Go.Proofs.YthijbipidbjpfaaGreatDoor
