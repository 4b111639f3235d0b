import Derived.Test.YthijbipidbjpfaaGreatDoorZR24
import Derived.BigQuiet
import Derived.Test.YthijbipidbjpfaaGreatDoorZR00
import Derived.Test.YthijbipidbjpfaaGreatDoorZR04
import Derived.Test.YthijbipidbjpfaaGreatDoorZR03
import Derived.Test.YthijbipidbjpfaaGreatDoorZR06
import Derived.Test.YthijbipidbjpfaaGreatDoorZR21
import Derived.Test.YthijbipidbjpfaaGreatDoorZR02
set_option linter.unusedSimpArgs false
set_option linter.unusedVariables false
set_option maxRecDepth 100000
set_option maxHeartbeats 8000000
namespace Go.Proofs.YthijbipidbjpfaaGreatDoor
open Go.RowKit Go.Maps
theorem mtG_w {s f:Int} {d:Ct} {js:List Jb} {v:Wr} {ws rs:List Wr}:mtG (⟨true,s,f,d⟩ :: js) (v :: ws) rs = (decide (v.1 = s∧v.2.1 = f) && mtG js ws rs):=rfl
theorem mtG_r {s f:Int} {d:Ct} {js:List Jb} {v:Wr} {ws rs:List Wr}:mtG (⟨false,s,f,d⟩ :: js) ws (v :: rs) = (decide (v.1 = s∧v.2.1 = f) && mtG js ws rs):=by rw [mtG]
theorem mtG_r0 (s f:Int) (d:Ct) (js:List Jb) (ws:List Wr):mtG (⟨false,s,f,d⟩ :: js) ws [] = false:=by rw [mtG]
theorem rwMatched_any (L:Lay) (s:Swp) (w:World) (h:SwR w L s) (hf:Few s):Calls Tryz.prog 65 #[swV L s] w fun e w' => e = .returned (.bool (mtG s.dk.jobs s.wr s.rd))∧Below w.heap.size w w':=by
 obtain ⟨a0,c0,a1,c1,a2,c2,a3,c3,a4,c4,a5,c5,a6,c6,a7,c7⟩:=L;have HS:=Lib.hid h;have f2:=hf.f2;have f3:=hf.f3;have f6:=hf.f6;obtain ⟨R,hR⟩:∃ R,mtG s.dk.jobs s.wr s.rd = R:=⟨_,rfl⟩;rw [hR];have HR0:Hid (mtG (s.dk.jobs.drop 0) (s.wr.drop 0) (s.rd.drop 0) = R):=hR;clear h hf hR;unfold swV swC;obtain ⟨X,hX⟩:∃ X,w.alloc (.cells (zkx s a0 c0 a1 c1 a2 c2 a3 c3 a4 c4 a5 c5 a6 c6 a7 c7).toArray 35) = X:=⟨_,rfl⟩;have kX:Blk X w.heap.size 35 (zkx s a0 c0 a1 c1 a2 c2 a3 c3 a4 c4 a5 c5 a6 c6 a7 c7).toArray:=by rw [← hX];exact zbk
 have BX:Below w.heap.size w X:=by rw [← hX];exact zbl
 have zX:=kX.lt
 go_enter Tryz.func65,Tryz.ntmps65
 go_wp2_with fail;(try rw [hX]);clear hX
 go_loopw [3,4,5] (fun u v i wr => ∃ k a b:Nat,k ≤ s.dk.jobs.length∧a ≤ s.wr.length∧b ≤ s.rd.length∧i = .int .i64 k∧u = .int .i64 a∧v = .int .i64 b∧Hid (mtG (s.dk.jobs.drop k) (s.wr.drop a) (s.rd.drop b) = R)∧Below X.heap.size X wr) (fun _ _ i _ => s.dk.jobs.length - (intOf i).toNat)
 case atStart => exact ⟨0,0,0,by omega,by omega,by omega,rfl,rfl,rfl,HR0.out,Below.refl _ _⟩
 case round =>
  obtain ⟨k,a,b,hk,ha,hb,rfl,rfl,rfl,HR,hbw⟩:=hrel;clear HR0;have b1:=BX.trans (hbw.mono BX.size);have kX1:=kX.below_ hbw zX;have zX1:=kX1.lt;obtain ⟨-,-,-,q3,q4,-,-,q7,-⟩:=zc11 kX1
  by_cases hlt:k < s.dk.jobs.length
  ·obtain ⟨bj,oj,x,hA,hbl,hx,hc⟩:=(HS.out.r6.ext b1).at_ (k:=k) hlt
   dsimp only at hA;subst hA;obtain ⟨jw,js,jf,⟨x0,x1,x2,x3,x4,x5,x6,x7⟩⟩:=x;have e0:wr.cell? ⟨bj,oj + k * 11,none⟩ = some (.bool jw):=hc 0 _ rfl;have e1:wr.cell? ⟨bj,oj + k * 11 + 1,none⟩ = some (.int .i64 js):=hc 1 _ rfl;have e2:wr.cell? ⟨bj,oj + k * 11 + 2,none⟩ = some (.int .i64 jf):=hc 2 _ rfl;have e3:wr.cell? ⟨bj,oj + k * 11 + 3,none⟩ = some (.int .u64 x0):=hc 3 _ rfl;have e4:wr.cell? ⟨bj,oj + k * 11 + 4,none⟩ = some (.int .u64 x1):=hc 4 _ rfl;have e5:wr.cell? ⟨bj,oj + k * 11 + 5,none⟩ = some (.int .u64 x2):=hc 5 _ rfl;have e6:wr.cell? ⟨bj,oj + k * 11 + 6,none⟩ = some (.int .u64 x3):=hc 6 _ rfl;have e7:wr.cell? ⟨bj,oj + k * 11 + 7,none⟩ = some (.int .u64 x4):=hc 7 _ rfl;have e8:wr.cell? ⟨bj,oj + k * 11 + 8,none⟩ = some (.int .u64 x5):=hc 8 _ rfl;have e9:wr.cell? ⟨bj,oj + k * 11 + 9,none⟩ = some (.int .u64 x6):=hc 9 _ rfl;have e10:wr.cell? ⟨bj,oj + k * 11 + 10,none⟩ = some (.int .u64 x7):=hc 10 _ rfl;have i1:(k:Int) < s.dk.jobs.length:=by omega
   have HJ:Hid (s.dk.jobs.drop k = ⟨jw,js,jf,⟨x0,x1,x2,x3,x4,x5,x6,x7⟩⟩ :: s.dk.jobs.drop (k + 1)):=by
    show _ = _;rw [List.drop_eq_getElem_cons hlt];rw [List.getElem?_eq_getElem hlt] at hx;injection hx with hx
    rw [hx]
   clear hc hx;go_upto_region 6 with fail;obtain ⟨V,hV⟩:∃ V,wr.alloc (.cells (zkj jw js jf x0 x1 x2 x3 x4 x5 x6 x7).toArray 115) = V:=⟨_,rfl⟩;have kJ:=za hV;have kX2:Blk V w.heap.size 35 (zkx s a0 c0 a1 c1 a2 c2 a3 c3 a4 c4 a5 c5 (some ⟨bj,oj,none⟩) c6 a7 c7).toArray:=by rw [← hV];exact kX1.alloc_ _
   have hb2:Below X.heap.size X V:=by rw [← hV];exact hbw.alloc hbw.size _
   have B2:=BX.trans (hb2.mono BX.size);have zJ:=kJ.lt;have zX2:=kX2.lt;rw [hV];clear hV q3 q4 q7 e0 e1 e2 e3 e4 e5 e6 e7 e8 e9 e10
   cases jw with
   | true =>
    by_cases hv:a < s.wr.length
    ·obtain ⟨bv,ov,v,hA,hbv,hv1,hc⟩:=(HS.out.r2.ext B2).at_ (k:=a) hv
     have v0:V.cell? ⟨bv,ov + a * 3,none⟩ = some (.int .i64 v.1):=hc 0 _ rfl;have v1:V.cell? ⟨bv,ov + a * 3 + 1,none⟩ = some (.int .i64 v.2.1):=hc 1 _ rfl;dsimp only at hA;subst hA;have HV:=Lib.hid (List.drop_eq_getElem_cons hv);have HVE:Hid (s.wr[a] = v):=by show _ = _;rw [List.getElem?_eq_getElem hv] at hv1;injection hv1
     have g0:decide ((a:Int) ≥ s.wr.length) = false:=decide_eq_false (by omega);have g0b:decide (s.wr.length ≤ a) = false:=decide_eq_false (by omega);have g4:(a:Int) < s.wr.length:=by omega
     clear hc hv1;have y0:=zc kJ 0;have y1:=zc kJ 1;have y2:=zc kJ 2;have q3:=zc kX2 3
     by_cases h1:v.1 = js
     ·have g1:(v.1 != js) = false:=by simpa using h1
      by_cases h2:v.2.1 = jf
      ·have g2:(v.2.1 != jf) = false:=by simpa using h2
       have HN:Hid (mtG (s.dk.jobs.drop (k + 1)) (s.wr.drop (a + 1)) (s.rd.drop b) = R):=by show _ = _;rw [← HR.out,HJ.out,HV.out,HVE.out,mtG_w];simp [h1,h2]
       clear h1 h2;go_wp2_with fail
       go_quiet (fail)
       go_wp2_with fail
       go_roundw
       case rel => exact ⟨k + 1,a + 1,b,by omega,by omega,by omega,by go_num,by go_num,by go_num,HN.out,zbl⟩
       case measure => simp [intOf];omega
      ·have g2:(v.2.1 != jf) = true:=by simpa using h2
       have HE:Hid (R = false):=by show _ = _;rw [← HR.out,HJ.out,HV.out,HVE.out,mtG_w];simp [h1,h2]
       clear h1 h2;go_wp2_with fail
       go_quiet (fail)
       go_wp2_with fail;go_ret;exact ⟨ret_bool HE.out.symm,BX.trans (Below.mono (show Below X.heap.size X _ from zbl) BX.size)⟩
     ·have g1:(v.1 != js) = true:=by simpa using h1
      have HE:Hid (R = false):=by show _ = _;rw [← HR.out,HJ.out,HV.out,HVE.out,mtG_w];simp [h1]
      clear h1;go_wp2_with fail
      go_quiet (fail)
      go_wp2_with fail;go_ret;exact ⟨ret_bool HE.out.symm,BX.trans (Below.mono (show Below X.heap.size X _ from zbl) BX.size)⟩
    ·have g0:decide ((a:Int) ≥ s.wr.length) = true:=decide_eq_true (by omega)
     have g0b:decide (s.wr.length ≤ a) = true:=decide_eq_true (by omega);have HE:Hid (R = false):=by show _ = _;rw [← HR.out,HJ.out,List.drop_of_length_le (show s.wr.length ≤ a by omega)];rfl
     have y0:=zc kJ 0;have y1:=zc kJ 1;have y2:=zc kJ 2;obtain ⟨-,-,-,q3,-⟩:=zc11 kX2;go_wp2_with fail
     go_quiet (fail)
     go_wp2_with fail;go_ret;exact ⟨ret_bool HE.out.symm,BX.trans (Below.mono (show Below X.heap.size X _ from zbl) BX.size)⟩
   | false =>
    by_cases hv:b < s.rd.length
    ·obtain ⟨bv,ov,v,hA,hbv,hv1,hc⟩:=(HS.out.r3.ext B2).at_ (k:=b) hv
     have v0:V.cell? ⟨bv,ov + b * 3,none⟩ = some (.int .i64 v.1):=hc 0 _ rfl;have v1:V.cell? ⟨bv,ov + b * 3 + 1,none⟩ = some (.int .i64 v.2.1):=hc 1 _ rfl;dsimp only at hA;subst hA;have HV:=Lib.hid (List.drop_eq_getElem_cons hv);have HVE:Hid (s.rd[b] = v):=by show _ = _;rw [List.getElem?_eq_getElem hv] at hv1;injection hv1
     have g0:decide ((b:Int) ≥ s.rd.length) = false:=decide_eq_false (by omega);have g0b:decide (s.rd.length ≤ b) = false:=decide_eq_false (by omega);have g4:(b:Int) < s.rd.length:=by omega
     clear hc hv1;have y0:=zc kJ 0;have y1:=zc kJ 1;have y2:=zc kJ 2;have q4:=zc kX2 4
     by_cases h1:v.1 = js
     ·have g1:(v.1 != js) = false:=by simpa using h1
      by_cases h2:v.2.1 = jf
      ·have g2:(v.2.1 != jf) = false:=by simpa using h2
       have HN:Hid (mtG (s.dk.jobs.drop (k + 1)) (s.wr.drop a) (s.rd.drop (b + 1)) = R):=by show _ = _;rw [← HR.out,HJ.out,HV.out,HVE.out,mtG_r];simp [h1,h2]
       clear h1 h2;go_wp2_with fail
       go_quiet (fail)
       go_wp2_with fail
       go_roundw
       case rel => exact ⟨k + 1,a,b + 1,by omega,by omega,by omega,by go_num,by go_num,by go_num,HN.out,zbl⟩
       case measure => simp [intOf];omega
      ·have g2:(v.2.1 != jf) = true:=by simpa using h2
       have HE:Hid (R = false):=by show _ = _;rw [← HR.out,HJ.out,HV.out,HVE.out,mtG_r];simp [h1,h2]
       clear h1 h2;go_wp2_with fail
       go_quiet (fail)
       go_wp2_with fail;go_ret;exact ⟨ret_bool HE.out.symm,BX.trans (Below.mono (show Below X.heap.size X _ from zbl) BX.size)⟩
     ·have g1:(v.1 != js) = true:=by simpa using h1
      have HE:Hid (R = false):=by show _ = _;rw [← HR.out,HJ.out,HV.out,HVE.out,mtG_r];simp [h1]
      clear h1;go_wp2_with fail
      go_quiet (fail)
      go_wp2_with fail;go_ret;exact ⟨ret_bool HE.out.symm,BX.trans (Below.mono (show Below X.heap.size X _ from zbl) BX.size)⟩
    ·have g0:decide ((b:Int) ≥ s.rd.length) = true:=decide_eq_true (by omega)
     have g0b:decide (s.rd.length ≤ b) = true:=decide_eq_true (by omega);have HE:Hid (R = false):=by show _ = _;rw [← HR.out,HJ.out,List.drop_of_length_le (show s.rd.length ≤ b by omega)];exact mtG_r0 _ _ _ _ _
     have y0:=zc kJ 0;have y1:=zc kJ 1;have y2:=zc kJ 2;obtain ⟨-,-,-,-,q4,-⟩:=zc11 kX2;go_wp2_with fail
     go_quiet (fail)
     go_wp2_with fail;go_ret;exact ⟨ret_bool HE.out.symm,BX.trans (Below.mono (show Below X.heap.size X _ from zbl) BX.size)⟩
  ·have HE:Hid (R = (((a:Int) == s.wr.length) && ((b:Int) == s.rd.length))):=by
    show _ = _;rw [← HR.out,List.drop_of_length_le (show s.dk.jobs.length ≤ k by omega)];have e1:(s.wr.drop a).isEmpty = ((a:Int) == s.wr.length):=by rw [Bool.eq_iff_iff,List.isEmpty_iff,List.drop_eq_nil_iff,beq_iff_eq];omega
    have e2:(s.rd.drop b).isEmpty = ((b:Int) == s.rd.length):=by rw [Bool.eq_iff_iff,List.isEmpty_iff,List.drop_eq_nil_iff,beq_iff_eq];omega
    unfold mtG;rw [e1,e2]
   have i1:¬ (k:Int) < s.dk.jobs.length:=by omega
   cases g1:((a:Int) == s.wr.length) with
   | true =>
    rw [g1] at HE;go_wp2_with fail;go_ret;exact ⟨ret_bool (by rw [HE.out];rfl),b1⟩
   | false =>
    rw [g1] at HE;go_wp2_with fail;go_ret;exact ⟨ret_bool (by rw [HE.out];rfl),b1⟩
def dscB (s:Swp):Bool:=decide (s.desc.length = s.dk.jobs.length∧(tknP s.po).length = s.desc.length∧∀ d ∈ tknP s.po,d ∈ s.desc)
theorem rwDescribed_any (L:Lay) (s:Swp) (w:World) (h:SwR w L s) (hf:Few s) (hp:OkP s.po):Calls Tryz.prog 66 #[swV L s] w fun e w' => e = .returned (.bool (dscB s))∧Below w.heap.size w w':=by
 obtain ⟨a0,c0,a1,c1,a2,c2,a3,c3,a4,c4,a5,c5,a6,c6,a7,c7⟩:=L;have HS:=Lib.hid h;have f4:=hf.f4;have HT:=Lib.hid (fun W h => rpTaken_any a7 c7 s.po W hp h);obtain ⟨R,hR⟩:∃ R,dscB s = R:=⟨_,rfl⟩;rw [hR];have HR:=Lib.hid hR;obtain ⟨T,hTe⟩:∃ T,tknP s.po = T:=⟨_,rfl⟩;have HTE:=Lib.hid hTe;clear h hf hR hTe;unfold swV swC;obtain ⟨X,hX⟩:∃ X,w.alloc (.cells (zkx s a0 c0 a1 c1 a2 c2 a3 c3 a4 c4 a5 c5 a6 c6 a7 c7).toArray 35) = X:=⟨_,rfl⟩;have kX:Blk X w.heap.size 35 (zkx s a0 c0 a1 c1 a2 c2 a3 c3 a4 c4 a5 c5 a6 c6 a7 c7).toArray:=by rw [← hX];exact zbk
 have BX:Below w.heap.size w X:=by rw [← hX];exact zbl
 have zX:=kX.lt;obtain ⟨-,-,-,-,-,-,-,-,-,q9,q10⟩:=zc11 kX
 go_enter Tryz.func66,Tryz.ntmps66
 go_wp2_with fail;(try rw [hX]);clear hX;refine (HT.out X (HS.out.r7.ext BX)).mono ?_;rintro e1 w1 ⟨A,c,rfl,hCan,hb1⟩;rw [HTE.out];have HSR:Hid (SR intE w1 A T):=by have:=hCan.sr;rwa [HTE.out] at this
 have B1:=BX.trans (hb1.mono BX.size);replace kX:=kX.below_ hb1 zX;have zX1:=kX.lt;clear q9 q10 hb1 hCan zX;obtain ⟨-,-,-,-,-,q5,-,q7,-⟩:=zc11 kX
 cases g1:((s.desc.length:Int) != s.dk.jobs.length) with
 | true =>
  have HE:Hid (R = false):=by show _ = _;rw [← HR.out];refine decide_eq_false fun h => ?_;have:=h.1;simp at g1;omega
  go_wp2_with fail;go_ret;exact ⟨ret_bool HE.out.symm,B1⟩
 | false =>
  cases g2:((T.length:Int) != s.desc.length) with
  | true =>
   have HE:Hid (R = false):=by show _ = _;rw [← HR.out];refine decide_eq_false fun h => ?_;have:=h.2.1;rw [HTE.out] at this;simp at g2;omega
   go_wp2_with fail;go_ret;exact ⟨ret_bool HE.out.symm,B1⟩
  | false =>
   have HG:Hid (s.desc.length = s.dk.jobs.length∧T.length = s.desc.length):=by simp at g1 g2;exact ⟨by omega,by omega⟩
   have hT:T.length ≤ 1000:=by have:=HG.out.2;omega
   go_wp2_with fail;clear g1 g2 q5 q7
   go_loopw [5] (fun i wr => ∃ k:Nat,k ≤ T.length∧i = .int .i64 k∧Hid (∀ x ∈ T.take k,x ∈ s.desc)∧Below w1.heap.size w1 wr) (fun i _ => T.length - (intOf i).toNat)
   case atStart => exact ⟨0,by omega,rfl,fun x hx => by simp at hx,Below.refl _ _⟩
   case round =>
    obtain ⟨k,hk,rfl,HK,hbw⟩:=hrel;have b1:=B1.trans (hbw.mono B1.size);have kX1:=kX.below_ hbw zX1;have zX2:=kX1.lt;obtain ⟨-,-,-,-,-,q5,-⟩:=zc11 kX1
    by_cases hlt:k < T.length
    ·have i1:(k:Int) < T.length:=by omega
     obtain ⟨bt,ot,x,rfl,hbl,hx,hc⟩:=(HSR.out.ext hbw).at_ hlt;have e0:wr.cell? ⟨bt,ot + k,none⟩ = some (.int .i64 x):=by simpa [show intE.sz = 1 from rfl] using hc 0 (.int .i64 x) rfl
     have HX:=Lib.hid hx;obtain ⟨wo,rfl⟩:∃ wo,wo = wr:=⟨_,rfl⟩;clear hc hx;go_wp2_with fail;clear q5
     go_loopw [6,7] (fun f i wr => ∃ (q:Nat) (fb:Bool),q ≤ s.desc.length∧i = .int .i64 q∧f = .bool fb∧Hid (fb = decide (x ∈ s.desc.take q))∧Below wo.heap.size wo wr) (fun _ i _ => s.desc.length - (intOf i).toNat)
     case atStart => exact ⟨0,false,by omega,rfl,rfl,by show _ = _;simp,Below.refl _ _⟩
     case round =>
      obtain ⟨q,fb,hq,rfl,rfl,HF,hbq⟩:=hrel;have b2:=b1.trans (hbq.mono b1.size);have kX2:=kX1.below_ hbq zX2;have zX3:=kX2.lt;have e1:=cell_keep hbq e0 hbl;have hbl1:bt < wr.heap.size:=Nat.lt_of_lt_of_le hbl hbq.size;have hbwq:=zbt hbw hbq;obtain ⟨-,-,-,-,-,q5,-⟩:=zc11 kX2
      by_cases hql:q < s.desc.length
      ·have i2:(q:Int) < s.desc.length:=by omega
       obtain ⟨bd,od,y,hA,hbd,hy,hcy⟩:=(HS.out.r4.ext b2).at_ hql;dsimp only at hA;subst hA;have e2:wr.cell? ⟨bd,od + q,none⟩ = some (.int .i64 y):=by simpa [show intE.sz = 1 from rfl] using hcy 0 (.int .i64 y) rfl
       have HT1:Hid (decide (x ∈ s.desc.take (q + 1)) = (fb || (y == x))):=by
        show _ = _;rw [HF.out,List.take_add_one,hy]
        by_cases e:y = x
        ·simp [e]
        ·have e':¬ x = y:=fun h => e h.symm
         simp [e,e']
       clear hcy hy
       cases fb with
       | true =>
        go_wp2_with fail
        go_quiet (fail)
        go_wp2_with fail
        go_roundw
        case rel => exact ⟨q + 1,true,by omega,by go_num,rfl,by show _ = _;rw [HT1.out];rfl,zbl⟩
        case measure => simp [intOf];omega
       | false =>
        go_wp2_with fail
        go_quiet (fail)
        go_wp2_with fail
        go_roundw
        case rel => exact ⟨q + 1,(y == x),by omega,by go_num,rfl,by show _ = _;rw [HT1.out];rfl,zbl⟩
        case measure => simp [intOf];omega
      ·obtain rfl:q = s.desc.length:=by omega
       have HF2:Hid (fb = decide (x ∈ s.desc)):=by have:=HF.out;rwa [List.take_length] at this
       cases fb with
       | true =>
        have HK2:Hid (∀ z ∈ T.take (k + 1),z ∈ s.desc):=by
         show ∀ z ∈ _,_
         rw [List.take_add_one,HX.out];intro z hz
         rcases List.mem_append.1 hz with hz | hz
         ·exact HK.out z hz
         ·simp at hz;rw [hz];exact of_decide_eq_true HF2.out.symm
        go_wp2_with fail
        go_roundw
        case rel => exact ⟨k + 1,by omega,by go_num,HK2.out,hbwq⟩
        case measure => simp [intOf];omega
       | false =>
        have HE:Hid (R = false):=by
         show _ = _;rw [← HR.out]
         refine decide_eq_false fun h => ?_
         have h2:=h.2.2 x (by rw [HTE.out];exact List.mem_of_getElem? HX.out);have:=HF2.out;rw [decide_eq_true h2] at this
         cases this
        go_wp2_with fail;go_ret;exact ⟨ret_bool HE.out.symm,b2⟩
    ·have HE:Hid (R = true):=by
      show _ = _;rw [← HR.out];refine decide_eq_true ⟨HG.out.1,by rw [HTE.out];exact HG.out.2,?_⟩;rw [HTE.out];have:=HK.out
      rwa [List.take_of_length_le (by omega)] at this
     go_wp2_with fail;go_ret;exact ⟨ret_bool HE.out.symm,b1⟩
theorem rwCheck_any (L:Lay) (s:Swp) (w:World) (h:SwR w L s) (hf:Few s):Calls Tryz.prog 19 #[swV L s] w fun e w' => e = .returned (.int .i64 (chkW s))∧Below w.heap.size w w':=by
 obtain ⟨a0,c0,a1,c1,a2,c2,a3,c3,a4,c4,a5,c5,a6,c6,a7,c7⟩:=L;have HS:=Lib.hid h;have HF:=Lib.hid hf;obtain ⟨R,hR⟩:∃ R,chkW s = R:=⟨_,rfl⟩;rw [hR];obtain ⟨z,hz⟩:∃ z,prtE s = z:=⟨_,rfl⟩
 have hP:=fun W hw => rwParts_any ⟨a0,c0,a1,c1,a2,c2,a3,c3,a4,c4,a5,c5,a6,c6,a7,c7⟩ s W hw hf
 rw [hz] at hP;have HP:=Lib.hid hP;have hRz:=chkW_prt s;rw [hR,hz] at hRz;have f3:=hf.f3;have f0:=hf.f0;clear h hf hP;unfold swV swC at HP ⊢;obtain ⟨X,hX⟩:∃ X,w.alloc (.cells (zkx s a0 c0 a1 c1 a2 c2 a3 c3 a4 c4 a5 c5 a6 c6 a7 c7).toArray 35) = X:=⟨_,rfl⟩;have kX:Blk X w.heap.size 35 (zkx s a0 c0 a1 c1 a2 c2 a3 c3 a4 c4 a5 c5 a6 c6 a7 c7).toArray:=by rw [← hX];exact zbk
 have BX:Below w.heap.size w X:=by rw [← hX];exact zbl
 have zX:=kX.lt;obtain ⟨q0,q1,q2,q3,q4,q5,q6,q7,q8,q9,q10⟩:=zc11 kX
 by_cases z0:z = 0
 ·subst z0
  obtain ⟨hoT,hoV,hoD,hoP⟩:=prt_ok hz;have HAG:=Lib.hid (agR_iff hoT hoV hoD)
  have HB3:Hid (¬ agW s = true→R = 3):=fun h => by rw [hRz,if_neg (by simp),if_neg h]
  have HG0:Hid (agW s = true→R = 0):=fun h => by rw [hRz,if_neg (by simp),if_pos h]
  have HT:=Lib.hid hoT;have HM:=Lib.hid (fun W hw => rwMatched_any ⟨a0,c0,a1,c1,a2,c2,a3,c3,a4,c4,a5,c5,a6,c6,a7,c7⟩ s W hw HF.out);have HD:=Lib.hid (fun W hw => rwDescribed_any ⟨a0,c0,a1,c1,a2,c2,a3,c3,a4,c4,a5,c5,a6,c6,a7,c7⟩ s W hw HF.out hoP);clear hoT hoV hoD hoP hz hRz hR;unfold swV swC at HM HD
  go_enter Tryz.func19,Tryz.ntmps19
  go_wp2_with fail;(try rw [hX]);clear hX;refine (HP.out X (HS.out.ext BX)).mono ?_;rintro e1 w1 ⟨rfl,hb1⟩;have B1:=BX.trans (hb1.mono BX.size);replace kX:=kX.below_ hb1 zX;clear q0 q1 q2 q3 q4 q5 q6 q7 q8 q9 q10 hb1 zX;have zX:=kX.lt;obtain ⟨q0,q1,q2,q3,q4,q5,q6,q7,q8,q9,q10⟩:=zc11 kX
  cases c1':((s.sl.refs.length:Int) != s.dk.cells.length) with
  | true =>
   have HE:Hid (R = 3):=HB3.out fun h => by have:=(HAG.out.1 h).1.1;simp at c1';omega
   go_wp2_with fail;go_ret;exact ⟨by rw [HE.out];rfl,B1⟩
  | false =>
   cases c2':(s.dk.room != s.po.size) with
   | true =>
    have HE:Hid (R = 3):=HB3.out fun h => by have:=(HAG.out.1 h).1.2.1;simp at c2';omega
    go_wp2_with fail;go_ret;exact ⟨by rw [HE.out];rfl,B1⟩
   | false =>
    cases c3':decide ((s.wr.length:Int) > s.cap) with
    | true =>
     have HE:Hid (R = 3):=HB3.out fun h => by have:=(HAG.out.1 h).1.2.2;simp at c3';omega
     go_wp2_with fail;go_ret;exact ⟨by rw [HE.out];rfl,B1⟩
    | false =>
     have HQ1:Hid (s.sl.refs.length = s.dk.cells.length∧s.dk.room = s.po.size∧(s.wr.length:Int) ≤ s.cap):=by simp at c1' c2' c3';exact ⟨by omega,by omega,by omega⟩
     obtain ⟨mg,hmg⟩:∃ b,mtG s.dk.jobs s.wr s.rd = b:=⟨_,rfl⟩;have hM:=HM.out w1 (HS.out.ext B1);rw [hmg] at hM;have HM1:=Lib.hid hM;have HMG:=Lib.hid hmg;clear hM hmg;go_wp2_with fail;refine HM1.out.mono ?_;rintro e2 w2 ⟨rfl,hb2⟩;have B2:=B1.trans (hb2.mono B1.size);replace kX:=kX.below_ hb2 zX;clear q0 q1 q2 q3 q4 q5 q6 q7 q8 q9 q10 hb2 zX HM1;have zX:=kX.lt;obtain ⟨q0,q1,q2,q3,q4,q5,q6,q7,q8,q9,q10⟩:=zc11 kX
     cases mg with
     | false =>
      have HE:Hid (R = 3):=HB3.out fun h => by have:=(HAG.out.1 h).2.1;rw [HMG.out] at this;cases this
      go_wp2_with fail;go_ret;exact ⟨by rw [HE.out];rfl,B2⟩
     | true =>
      obtain ⟨dg,hdg⟩:∃ b,dscB s = b:=⟨_,rfl⟩;have hD:=HD.out w2 (HS.out.ext B2);rw [hdg] at hD;have HD1:=Lib.hid hD;have HDG:=Lib.hid hdg;clear hD hdg;go_wp2_with fail;refine HD1.out.mono ?_;rintro e3 w3 ⟨rfl,hb3⟩;have B3:=B2.trans (hb3.mono B2.size);replace kX:=kX.below_ hb3 zX;clear q0 q1 q2 q3 q4 q5 q6 q7 q8 q9 q10 hb3 zX HD1
      cases dg with
      | false =>
       have HE:Hid (R = 3):=HB3.out fun h => by have:=(HAG.out.1 h).2.2.1;have h2:=HDG.out;unfold dscB at h2;exact of_decide_eq_false h2 this
       go_wp2_with fail;go_ret;exact ⟨by rw [HE.out];rfl,B3⟩
      | true =>
       have HDS:Hid (s.desc.length = s.dk.jobs.length∧(tknP s.po).length = s.desc.length∧∀ d ∈ tknP s.po,d ∈ s.desc):=by show _∧_;exact of_decide_eq_true HDG.out
       go_wp2_with fail;clear c1' c2' c3'
       go_loopw [4] (fun i wr => ∃ k:Nat,k ≤ s.rd.length∧i = .int .i64 k∧Hid (∀ v ∈ s.rd.take k,0 ≤ v.2.2∧v.2.2 ≤ 8)∧Below w3.heap.size w3 wr) (fun i _ => s.rd.length - (intOf i).toNat)
       case atStart => exact ⟨0,by omega,rfl,fun x hx => by simp at hx,Below.refl _ _⟩
       case round =>
        obtain ⟨k,hk,rfl,HK,hbw⟩:=hrel;have b3:=B3.trans (hbw.mono B3.size);replace kX:=kX.below_ hbw kX.lt;have zX:=kX.lt;obtain ⟨-,-,-,-,q4,-⟩:=zc11 kX
        by_cases hlt:k < s.rd.length
        ·have i1:(k:Int) < s.rd.length:=by omega
         obtain ⟨b,off,x,rfl,hbl,hx,hc⟩:=(HS.out.r3.ext b3).at_ hlt;have e0:wr.cell? ⟨b,off + k * 3 + 2,none⟩ = some (.int .i64 x.2.2):=hc 2 _ rfl;have HX:=Lib.hid hx;have HIN:=Lib.hid (List.mem_of_getElem? hx);clear hc hx
         cases d1:decide (x.2.2 < 0) with
         | true =>
          have HE:Hid (R = 3):=HB3.out fun h => by have:=(HAG.out.1 h).2.2.2.1 x HIN.out;simp at d1;omega
          go_wp2_with fail;go_ret;exact ⟨by rw [HE.out];rfl,b3⟩
         | false =>
          cases d2:decide (x.2.2 > 8) with
          | true =>
           have HE:Hid (R = 3):=HB3.out fun h => by have:=(HAG.out.1 h).2.2.2.1 x HIN.out;simp at d2;omega
           go_wp2_with fail;go_ret;exact ⟨by rw [HE.out];rfl,b3⟩
          | false =>
           have HK2:Hid (∀ v ∈ s.rd.take (k + 1),0 ≤ v.2.2∧v.2.2 ≤ 8):=by
            show ∀ v ∈ _,_
            rw [List.take_add_one,HX.out];intro v hv
            rcases List.mem_append.1 hv with hv | hv
            ·exact HK.out v hv
            ·simp at hv d1 d2;rw [hv];omega
           go_wp2_with fail
           go_roundw
           case rel => exact ⟨k + 1,by omega,by go_num,HK2.out,hbw⟩
           case measure => simp [intOf];omega
        ·have HRD:Hid (∀ v ∈ s.rd,0 ≤ v.2.2∧v.2.2 ≤ 8):=by have:=HK.out;rwa [List.take_of_length_le (by omega)] at this
         obtain ⟨wo,rfl⟩:∃ wo,wo = wr:=⟨_,rfl⟩;go_wp2_with fail;clear q4 zX hbw HK
         go_loopw [5] (fun i wr => ∃ q:Nat,1 ≤ q∧q ≤ 9∧i = .int .i64 q∧Hid (∀ p:Int,1 ≤ p→p < q→tmsL (s.wr ++ s.rd) p ≤ 1)∧Below wo.heap.size wo wr) (fun i _ => 9 - (intOf i).toNat)
         case atStart => exact ⟨1,by omega,by omega,rfl,fun p h1 h2 => by omega,Below.refl _ _⟩
         case round =>
          obtain ⟨q,hq1,hq,rfl,HQ,hbw⟩:=hrel;have B4:=b3;have b3:=b3.trans (hbw.mono b3.size);replace kX:=kX.below_ hbw kX.lt;have zX:=kX.lt
          by_cases hlt2:q ≤ 8
          ·have i2:(q:Int) ≤ 8:=by omega
           obtain ⟨q0,q1,q2,q3,q4,q5,q6,q7,q8,q9,q10⟩:=zc11 kX;obtain ⟨m,hm⟩:∃ m:Nat,tmsL (s.wr ++ s.rd) q = m:=⟨_,rfl⟩;have hT:=rwTimes_any ⟨a0,c0,a1,c1,a2,c2,a3,c3,a4,c4,a5,c5,a6,c6,a7,c7⟩ s q wr (HS.out.ext b3) HF.out;rw [hm] at hT;have HT1:=Lib.hid hT;have HMM:=Lib.hid hm;clear hT hm;unfold swV swC at HT1;go_wp2_with fail;refine HT1.out.mono ?_;rintro e4 w4 ⟨rfl,hb4⟩
           cases d3:decide ((m:Int) > 1) with
           | true =>
            have HE:Hid (R = 3):=HB3.out fun h => by have:=(HAG.out.1 h).2.2.2.2.1 q (by omega) (by omega);rw [HMM.out] at this;simp at d3;omega
            go_wp2_with fail;go_ret;exact ⟨by rw [HE.out];rfl,b3.trans (hb4.mono b3.size)⟩
           | false =>
            have HQ2:Hid (∀ p:Int,1 ≤ p→p < ((q + 1:Nat):Int)→tmsL (s.wr ++ s.rd) p ≤ 1):=fun p h1 h2 => by
             by_cases e:p = q
             ·rw [e,HMM.out];simp at d3;omega
             ·exact HQ.out p h1 (by omega)
            go_wp2_with fail
            go_roundw
            case rel => exact ⟨q + 1,by omega,by omega,by go_num,HQ2.out,hbw.trans (hb4.mono hbw.size)⟩
            case measure => simp [intOf];omega
          ·have HTM:Hid (∀ p:Int,1 ≤ p→p ≤ 8→tmsL (s.wr ++ s.rd) p ≤ 1):=fun p h1 h2 => HQ.out p h1 (by omega)
           have i2:¬ (q:Int) ≤ 8:=by omega
           obtain ⟨wu,rfl⟩:∃ wu,wu = wr:=⟨_,rfl⟩;go_wp2_with fail;clear hbw HQ zX B4;have B4:=b3;clear b3
           go_loopw [6] (fun i wr => ∃ k:Nat,k ≤ s.sl.refs.length∧i = .int .i64 k∧Hid (∀ j:Nat,j < k→bsyT s.sl j = decide (0 ≤ jobI s.dk.jobs j)∧¬ (wtdL (s.wr ++ s.rd) j = true∧refT s.sl j = 0))∧Below wu.heap.size wu wr) (fun i _ => s.sl.refs.length - (intOf i).toNat)
           case atStart => exact ⟨0,by omega,rfl,fun j hj => by omega,Below.refl _ _⟩
           case round =>
            obtain ⟨k,hk,rfl,HK,hbw⟩:=hrel;have b3:=B4.trans (hbw.mono B4.size);replace kX:=kX.below_ hbw kX.lt;have zX:=kX.lt;obtain ⟨-,q1,-⟩:=zc11 kX
            by_cases hlt3:k < s.sl.refs.length
            ·have i3:(k:Int) < s.sl.refs.length:=by omega
             have i4:(k:Int) < s.sl.busy.length:=by have:=HT.out.blen;omega
             obtain ⟨b0,o0,x0,hA0,zA,hx0,hc0⟩:=(HS.out.r0.ext b3).at_ hlt3;obtain ⟨b1,o1,x1,hA1,zB,hx1,hc1⟩:=(HS.out.r1.ext b3).at_ (k:=k) (by have:=HT.out.blen;omega);dsimp only at hA0 hA1;subst hA0 hA1;have ca:wr.cell? ⟨b0,o0 + k,none⟩ = some (.int .i64 x0):=by simpa [show intE.sz = 1 from rfl] using hc0 0 (.int .i64 x0) rfl
             have cb:wr.cell? ⟨b1,o1 + k,none⟩ = some (.bool x1):=by simpa [show boolE.sz = 1 from rfl] using hc1 0 (.bool x1) rfl
             have HX0:Hid (refT s.sl k = x0):=by show _ = _;unfold refT;rw [List.getD_eq_getElem?_getD,hx0];rfl
             have HX1:Hid (bsyT s.sl k = x1):=by show _ = _;unfold bsyT;rw [List.getD_eq_getElem?_getD,hx1];rfl
             clear hx0 hx1 hc0 hc1;obtain ⟨jv,hjv⟩:∃ j,jobI s.dk.jobs k = j:=⟨_,rfl⟩;obtain ⟨wv,hwv⟩:∃ v,wtdL (s.wr ++ s.rd) k = v:=⟨_,rfl⟩
             have HJ:Hid (∀ V,Below wr.heap.size wr V→Calls Tryz.prog 68 #[.agg (zkx s (some ⟨b0,o0,none⟩) c0 (some ⟨b1,o1,none⟩) c1 a2 c2 a3 c3 a4 c4 a5 c5 a6 c6 a7 c7).toArray,.int .i64 k] V fun e w' => e = .returned (.int .i64 jv)∧Below V.heap.size V w'):=by
              show ∀ V,_
              intro V hV;rw [← hjv];exact rwJob_any ⟨some ⟨b0,o0,none⟩,c0,some ⟨b1,o1,none⟩,c1,a2,c2,a3,c3,a4,c4,a5,c5,a6,c6,a7,c7⟩ s k V ((HS.out.ext b3).r6.ext hV) HF.out.f6
             have HW:Hid (∀ V,Below wr.heap.size wr V→Calls Tryz.prog 69 #[.agg (zkx s (some ⟨b0,o0,none⟩) c0 (some ⟨b1,o1,none⟩) c1 a2 c2 a3 c3 a4 c4 a5 c5 a6 c6 a7 c7).toArray,.int .i64 k] V fun e w' => e = .returned (.bool wv)∧Below V.heap.size V w'):=by
              show ∀ V,_
              intro V hV;rw [← hwv];exact rwWaited_any ⟨some ⟨b0,o0,none⟩,c0,some ⟨b1,o1,none⟩,c1,a2,c2,a3,c3,a4,c4,a5,c5,a6,c6,a7,c7⟩ s k V ((HS.out.ext b3).ext hV) HF.out
             have HJV:=Lib.hid hjv;have HWV:=Lib.hid hwv;clear hjv hwv;obtain ⟨g,hg⟩:∃ g,decide (jv ≥ 0) = g:=⟨_,rfl⟩;have HGE:=Lib.hid hg;have hg2:decide (0 ≤ jv) = g:=hg;obtain ⟨ne,hne⟩:∃ b,(x1 != g) = b:=⟨_,rfl⟩;have HNE:=Lib.hid hne;go_wp2_with fail
             cases ne with
             | true =>
              have HE:Hid (R = 3):=HB3.out fun h => by
               have:=((HAG.out.1 h).2.2.2.2.2 k (by omega)).1;rw [HX1.out,HJV.out] at this;have h2:=HNE.out;rw [← HGE.out,this] at h2;simp at h2
              refine wp_region_chain [.is ?fca0,.is ?fca1,.is ?fca2,.is ?fca3,.is ?fca4,.is ?fca5,.is ?fca6,.is ?fca7,.is (.int .i64 jv),.is (.bool g),.is (.bool true),.is ?fca11,.is undef,.is undef,.is undef,.is undef,.is undef,.is undef,.is undef,.is undef,.is undef,.is undef,.is undef,.is undef,.is ?fca24] (by kernel_rfl) (by kernel_rfl) (by kernel_rfl) (lasts_is (lasts_is (lasts_is (lasts_is (lasts_is (lasts_is (lasts_is (lasts_is (lasts_is (lasts_is (lasts_is (lasts_is (lasts_is (lasts_is (lasts_is (lasts_is (lasts_is (lasts_is (lasts_is (lasts_is (lasts_is (lasts_is (lasts_is (lasts_is (lasts_is lasts_nil))))))))))))))))))))))))) (fun W0 hb0 hz0 => ?_)
              rotate_left 10
              have kW:=kX.below_ hb0 kX.lt;have zW:=kW.lt;have ca:=cell_keep hb0 ca zA;have cb:=cell_keep hb0 cb zB;have zA:b0 < W0.heap.size:=Nat.lt_of_lt_of_le zA hb0.size;have zB:b1 < W0.heap.size:=Nat.lt_of_lt_of_le zB hb0.size;obtain ⟨p0,p1,p2,p3,p4,p5,p6,p7,p8,p9,p10⟩:=zc11 kW;refine zot ?_;refine zot ?_;refine zoT (fun w hbw hd => ?_) ?_
              ·have r2:=cell_keep hbw p2 zW
               exact zgs
              refine zot ?_;refine zot ?_;refine zoT (fun w hbw hd => ?_) ?_
              ·have rb:=cell_keep hbw cb zB
               exact zgs
              refine zoT (fun w hbw hd => ?_) ?_
              ·have r0:=cell_keep hbw p0 zW
               have r1:=cell_keep hbw p1 zW;have r2:=cell_keep hbw p2 zW;have r3:=cell_keep hbw p3 zW;have r4:=cell_keep hbw p4 zW;have r5:=cell_keep hbw p5 zW;have r6:=cell_keep hbw p6 zW;have r7:=cell_keep hbw p7 zW;have r8:=cell_keep hbw p8 zW;have r9:=cell_keep hbw p9 zW;have r10:=cell_keep hbw p10 zW;exact zgs
              refine zot ?_;refine chain_is ?sca8 ?rca8
              case sca8 =>
               intro w hbw hd K Q' hK;clear hd;go_simp;refine (HJ.out w (hb0.trans (hbw.mono hb0.size))).mono ?_;rintro e y ⟨rfl,hy⟩;go_wp2_with fail;refine hK.out (.int .i64 jv) _ _ ?_ ?_ rfl
               ·(simp only [Act.put,zy0,zy1,zy2,List.nil_append,List.cons_append])
               ·exact zbm
              (try simp only [Act.put,zy0,zy1,zy2,List.nil_append,List.cons_append]);refine zot ?_;refine zoT (fun w hbw hd => ?_) ?_
              ·clear hd
               go_simp
               first | done | simpa using HNE.out
              refine zot ?_;refine zou ?_;refine zou ?_;refine zou ?_;refine zou ?_;refine zou ?_;refine zou ?_;refine zou ?_;refine zou ?_;refine zou ?_;refine zou ?_;refine zou ?_;refine zou ?_;refine zot ?_;refine chain_end (fun wz hbz hd => ?_);go_wp2_with fail;go_ret;exact ⟨by rw [HE.out];rfl,b3.trans ((hb0.trans (hbz.mono hb0.size)).mono b3.size)⟩
             | false =>
              cases wv with
              | false =>
               have HK2:Hid (∀ j:Nat,j < k + 1→bsyT s.sl j = decide (0 ≤ jobI s.dk.jobs j)∧¬ (wtdL (s.wr ++ s.rd) j = true∧refT s.sl j = 0)):=fun j hj => by
                by_cases e:j = k
                ·rw [e,HX1.out,HJV.out,HWV.out]
                 exact ⟨by have h2:=HNE.out;rw [← HGE.out] at h2;simpa using h2,fun h => by cases h.1⟩
                ·exact HK.out j (by omega)
               refine wp_region_chain [.is ?fcb0,.is ?fcb1,.is ?fcb2,.is ?fcb3,.is ?fcb4,.is ?fcb5,.is ?fcb6,.is ?fcb7,.is (.int .i64 jv),.is (.bool g),.is (.bool false),.is ?fcb11,.is ?fcb12,.is ?fcb13,.is (.bool false),.is ?fcb15,.is undef,.is undef,.is undef,.is undef,.is undef,.is undef,.is undef,.is ?fcb23,.is ?fcb24] (by kernel_rfl) (by kernel_rfl) (by kernel_rfl) (lasts_is (lasts_is (lasts_is (lasts_is (lasts_is (lasts_is (lasts_is (lasts_is (lasts_is (lasts_is (lasts_is (lasts_is (lasts_is (lasts_is (lasts_is (lasts_is (lasts_is (lasts_is (lasts_is (lasts_is (lasts_is (lasts_is (lasts_is (lasts_is (lasts_is lasts_nil))))))))))))))))))))))))) (fun W0 hb0 hz0 => ?_)
               rotate_left 14
               have kW:=kX.below_ hb0 kX.lt;have zW:=kW.lt;have ca:=cell_keep hb0 ca zA;have cb:=cell_keep hb0 cb zB;have zA:b0 < W0.heap.size:=Nat.lt_of_lt_of_le zA hb0.size;have zB:b1 < W0.heap.size:=Nat.lt_of_lt_of_le zB hb0.size;obtain ⟨p0,p1,p2,p3,p4,p5,p6,p7,p8,p9,p10⟩:=zc11 kW;refine zot ?_;refine zot ?_;refine zoT (fun w hbw hd => ?_) ?_
               ·have r2:=cell_keep hbw p2 zW
                exact zgs
               refine zot ?_;refine zot ?_;refine zoT (fun w hbw hd => ?_) ?_
               ·have rb:=cell_keep hbw cb zB
                exact zgs
               refine zoT (fun w hbw hd => ?_) ?_
               ·have r0:=cell_keep hbw p0 zW
                have r1:=cell_keep hbw p1 zW;have r2:=cell_keep hbw p2 zW;have r3:=cell_keep hbw p3 zW;have r4:=cell_keep hbw p4 zW;have r5:=cell_keep hbw p5 zW;have r6:=cell_keep hbw p6 zW;have r7:=cell_keep hbw p7 zW;have r8:=cell_keep hbw p8 zW;have r9:=cell_keep hbw p9 zW;have r10:=cell_keep hbw p10 zW;exact zgs
               refine zot ?_;refine chain_is ?scb8 ?rcb8
               case scb8 =>
                intro w hbw hd K Q' hK;clear hd;go_simp;refine (HJ.out w (hb0.trans (hbw.mono hb0.size))).mono ?_;rintro e y ⟨rfl,hy⟩;go_wp2_with fail;refine hK.out (.int .i64 jv) _ _ ?_ ?_ rfl
                ·(simp only [Act.put,zy0,zy1,zy2,List.nil_append,List.cons_append])
                ·exact zbm
               (try simp only [Act.put,zy0,zy1,zy2,List.nil_append,List.cons_append]);refine zot ?_;refine zoT (fun w hbw hd => ?_) ?_
               ·clear hd
                go_simp
                first | done | simpa using HNE.out
               refine zot ?_;refine zoT (fun w hbw hd => ?_) ?_
               ·have r0:=cell_keep hbw p0 zW
                have r1:=cell_keep hbw p1 zW;have r2:=cell_keep hbw p2 zW;have r3:=cell_keep hbw p3 zW;have r4:=cell_keep hbw p4 zW;have r5:=cell_keep hbw p5 zW;have r6:=cell_keep hbw p6 zW;have r7:=cell_keep hbw p7 zW;have r8:=cell_keep hbw p8 zW;have r9:=cell_keep hbw p9 zW;have r10:=cell_keep hbw p10 zW;exact zgs
               refine zot ?_;refine chain_is ?scb14 ?rcb14
               case scb14 =>
                intro w hbw hd K Q' hK;clear hd;go_simp;refine (HW.out w (hb0.trans (hbw.mono hb0.size))).mono ?_;rintro e y ⟨rfl,hy⟩;go_wp2_with fail;refine hK.out (.bool false) _ _ ?_ ?_ rfl
                ·(simp only [Act.put,zy0,zy1,zy2,List.nil_append,List.cons_append])
                ·exact zbm
               (try simp only [Act.put,zy0,zy1,zy2,List.nil_append,List.cons_append]);refine zot ?_;refine zou ?_;refine zou ?_;refine zou ?_;refine zou ?_;refine zou ?_;refine zou ?_;refine zou ?_;refine zot ?_;refine zot ?_;refine chain_end (fun wz hbz hd => ?_);go_wp2_with fail
               go_roundw
               case rel => exact ⟨k + 1,by omega,by go_num,HK2.out,hbw.trans ((hb0.trans (hbz.mono hb0.size)).mono hbw.size)⟩
               case measure => simp [intOf];omega
              | true =>
               cases z0':(x0 == 0) with
               | true =>
                have HE:Hid (R = 3):=HB3.out fun h => by
                 have:=((HAG.out.1 h).2.2.2.2.2 k (by omega)).2;rw [HWV.out,HX0.out] at this;exact this ⟨rfl,by simpa using z0'⟩
                refine wp_region_chain [.is ?fcc0,.is ?fcc1,.is ?fcc2,.is ?fcc3,.is ?fcc4,.is ?fcc5,.is ?fcc6,.is ?fcc7,.is (.int .i64 jv),.is (.bool g),.is (.bool false),.is ?fcc11,.is ?fcc12,.is ?fcc13,.is (.bool true),.is ?fcc15,.is ?fcc16,.is ?fcc17,.is ?fcc18,.is ?fcc19,.is ?fcc20,.is ?fcc21,.is (.bool true),.is ?fcc23,.is ?fcc24] (by kernel_rfl) (by kernel_rfl) (by kernel_rfl) (lasts_is (lasts_is (lasts_is (lasts_is (lasts_is (lasts_is (lasts_is (lasts_is (lasts_is (lasts_is (lasts_is (lasts_is (lasts_is (lasts_is (lasts_is (lasts_is (lasts_is (lasts_is (lasts_is (lasts_is (lasts_is (lasts_is (lasts_is (lasts_is (lasts_is lasts_nil))))))))))))))))))))))))) (fun W0 hb0 hz0 => ?_)
                rotate_left 20
                have kW:=kX.below_ hb0 kX.lt;have zW:=kW.lt;have ca:=cell_keep hb0 ca zA;have cb:=cell_keep hb0 cb zB;have zA:b0 < W0.heap.size:=Nat.lt_of_lt_of_le zA hb0.size;have zB:b1 < W0.heap.size:=Nat.lt_of_lt_of_le zB hb0.size;obtain ⟨p0,p1,p2,p3,p4,p5,p6,p7,p8,p9,p10⟩:=zc11 kW;refine zot ?_;refine zot ?_;refine zoT (fun w hbw hd => ?_) ?_
                ·have r2:=cell_keep hbw p2 zW
                 exact zgs
                refine zot ?_;refine zot ?_;refine zoT (fun w hbw hd => ?_) ?_
                ·have rb:=cell_keep hbw cb zB
                 exact zgs
                refine zoT (fun w hbw hd => ?_) ?_
                ·have r0:=cell_keep hbw p0 zW
                 have r1:=cell_keep hbw p1 zW;have r2:=cell_keep hbw p2 zW;have r3:=cell_keep hbw p3 zW;have r4:=cell_keep hbw p4 zW;have r5:=cell_keep hbw p5 zW;have r6:=cell_keep hbw p6 zW;have r7:=cell_keep hbw p7 zW;have r8:=cell_keep hbw p8 zW;have r9:=cell_keep hbw p9 zW;have r10:=cell_keep hbw p10 zW;exact zgs
                refine zot ?_;refine chain_is ?scc8 ?rcc8
                case scc8 =>
                 intro w hbw hd K Q' hK;clear hd;go_simp;refine (HJ.out w (hb0.trans (hbw.mono hb0.size))).mono ?_;rintro e y ⟨rfl,hy⟩;go_wp2_with fail;refine hK.out (.int .i64 jv) _ _ ?_ ?_ rfl
                 ·(simp only [Act.put,zy0,zy1,zy2,List.nil_append,List.cons_append])
                 ·exact zbm
                (try simp only [Act.put,zy0,zy1,zy2,List.nil_append,List.cons_append]);refine zot ?_;refine zoT (fun w hbw hd => ?_) ?_
                ·clear hd
                 go_simp
                 first | done | simpa using HNE.out
                refine zot ?_;refine zoT (fun w hbw hd => ?_) ?_
                ·have r0:=cell_keep hbw p0 zW
                 have r1:=cell_keep hbw p1 zW;have r2:=cell_keep hbw p2 zW;have r3:=cell_keep hbw p3 zW;have r4:=cell_keep hbw p4 zW;have r5:=cell_keep hbw p5 zW;have r6:=cell_keep hbw p6 zW;have r7:=cell_keep hbw p7 zW;have r8:=cell_keep hbw p8 zW;have r9:=cell_keep hbw p9 zW;have r10:=cell_keep hbw p10 zW;exact zgs
                refine zot ?_;refine chain_is ?scc14 ?rcc14
                case scc14 =>
                 intro w hbw hd K Q' hK;clear hd;go_simp;refine (HW.out w (hb0.trans (hbw.mono hb0.size))).mono ?_;rintro e y ⟨rfl,hy⟩;go_wp2_with fail;refine hK.out (.bool true) _ _ ?_ ?_ rfl
                 ·(simp only [Act.put,zy0,zy1,zy2,List.nil_append,List.cons_append])
                 ·exact zbm
                (try simp only [Act.put,zy0,zy1,zy2,List.nil_append,List.cons_append]);refine zot ?_;refine zot ?_;refine zot ?_;refine zoT (fun w hbw hd => ?_) ?_
                ·have r1:=cell_keep hbw p1 zW
                 exact zgs
                refine zot ?_;refine zot ?_;refine zoT (fun w hbw hd => ?_) ?_
                ·have ra:=cell_keep hbw ca zA
                 exact zgs
                refine zot ?_;refine zot ?_;refine zot ?_;refine chain_end (fun wz hbz hd => ?_);go_wp2_with fail;go_ret;exact ⟨by rw [HE.out];rfl,b3.trans ((hb0.trans (hbz.mono hb0.size)).mono b3.size)⟩
               | false =>
                have HK2:Hid (∀ j:Nat,j < k + 1→bsyT s.sl j = decide (0 ≤ jobI s.dk.jobs j)∧¬ (wtdL (s.wr ++ s.rd) j = true∧refT s.sl j = 0)):=fun j hj => by
                 by_cases e:j = k
                 ·rw [e,HX1.out,HJV.out,HWV.out,HX0.out]
                  exact ⟨by have h2:=HNE.out;rw [← HGE.out] at h2;simpa using h2,fun h => by have:=h.2;simp [this] at z0'⟩
                 ·exact HK.out j (by omega)
                refine wp_region_chain [.is ?fcd0,.is ?fcd1,.is ?fcd2,.is ?fcd3,.is ?fcd4,.is ?fcd5,.is ?fcd6,.is ?fcd7,.is (.int .i64 jv),.is (.bool g),.is (.bool false),.is ?fcd11,.is ?fcd12,.is ?fcd13,.is (.bool true),.is ?fcd15,.is ?fcd16,.is ?fcd17,.is ?fcd18,.is ?fcd19,.is ?fcd20,.is ?fcd21,.is (.bool false),.is ?fcd23,.is ?fcd24] (by kernel_rfl) (by kernel_rfl) (by kernel_rfl) (lasts_is (lasts_is (lasts_is (lasts_is (lasts_is (lasts_is (lasts_is (lasts_is (lasts_is (lasts_is (lasts_is (lasts_is (lasts_is (lasts_is (lasts_is (lasts_is (lasts_is (lasts_is (lasts_is (lasts_is (lasts_is (lasts_is (lasts_is (lasts_is (lasts_is lasts_nil))))))))))))))))))))))))) (fun W0 hb0 hz0 => ?_)
                rotate_left 20
                have kW:=kX.below_ hb0 kX.lt;have zW:=kW.lt;have ca:=cell_keep hb0 ca zA;have cb:=cell_keep hb0 cb zB;have zA:b0 < W0.heap.size:=Nat.lt_of_lt_of_le zA hb0.size;have zB:b1 < W0.heap.size:=Nat.lt_of_lt_of_le zB hb0.size;obtain ⟨p0,p1,p2,p3,p4,p5,p6,p7,p8,p9,p10⟩:=zc11 kW;refine zot ?_;refine zot ?_;refine zoT (fun w hbw hd => ?_) ?_
                ·have r2:=cell_keep hbw p2 zW
                 exact zgs
                refine zot ?_;refine zot ?_;refine zoT (fun w hbw hd => ?_) ?_
                ·have rb:=cell_keep hbw cb zB
                 exact zgs
                refine zoT (fun w hbw hd => ?_) ?_
                ·have r0:=cell_keep hbw p0 zW
                 have r1:=cell_keep hbw p1 zW;have r2:=cell_keep hbw p2 zW;have r3:=cell_keep hbw p3 zW;have r4:=cell_keep hbw p4 zW;have r5:=cell_keep hbw p5 zW;have r6:=cell_keep hbw p6 zW;have r7:=cell_keep hbw p7 zW;have r8:=cell_keep hbw p8 zW;have r9:=cell_keep hbw p9 zW;have r10:=cell_keep hbw p10 zW;exact zgs
                refine zot ?_;refine chain_is ?scd8 ?rcd8
                case scd8 =>
                 intro w hbw hd K Q' hK;clear hd;go_simp;refine (HJ.out w (hb0.trans (hbw.mono hb0.size))).mono ?_;rintro e y ⟨rfl,hy⟩;go_wp2_with fail;refine hK.out (.int .i64 jv) _ _ ?_ ?_ rfl
                 ·(simp only [Act.put,zy0,zy1,zy2,List.nil_append,List.cons_append])
                 ·exact zbm
                (try simp only [Act.put,zy0,zy1,zy2,List.nil_append,List.cons_append]);refine zot ?_;refine zoT (fun w hbw hd => ?_) ?_
                ·clear hd
                 go_simp
                 first | done | simpa using HNE.out
                refine zot ?_;refine zoT (fun w hbw hd => ?_) ?_
                ·have r0:=cell_keep hbw p0 zW
                 have r1:=cell_keep hbw p1 zW;have r2:=cell_keep hbw p2 zW;have r3:=cell_keep hbw p3 zW;have r4:=cell_keep hbw p4 zW;have r5:=cell_keep hbw p5 zW;have r6:=cell_keep hbw p6 zW;have r7:=cell_keep hbw p7 zW;have r8:=cell_keep hbw p8 zW;have r9:=cell_keep hbw p9 zW;have r10:=cell_keep hbw p10 zW;exact zgs
                refine zot ?_;refine chain_is ?scd14 ?rcd14
                case scd14 =>
                 intro w hbw hd K Q' hK;clear hd;go_simp;refine (HW.out w (hb0.trans (hbw.mono hb0.size))).mono ?_;rintro e y ⟨rfl,hy⟩;go_wp2_with fail;refine hK.out (.bool true) _ _ ?_ ?_ rfl
                 ·(simp only [Act.put,zy0,zy1,zy2,List.nil_append,List.cons_append])
                 ·exact zbm
                (try simp only [Act.put,zy0,zy1,zy2,List.nil_append,List.cons_append]);refine zot ?_;refine zot ?_;refine zot ?_;refine zoT (fun w hbw hd => ?_) ?_
                ·have r1:=cell_keep hbw p1 zW
                 exact zgs
                refine zot ?_;refine zot ?_;refine zoT (fun w hbw hd => ?_) ?_
                ·have ra:=cell_keep hbw ca zA
                 exact zgs
                refine zot ?_;refine zot ?_;refine zot ?_;refine chain_end (fun wz hbz hd => ?_);go_wp2_with fail
                go_roundw
                case rel => exact ⟨k + 1,by omega,by go_num,HK2.out,hbw.trans ((hb0.trans (hbz.mono hb0.size)).mono hbw.size)⟩
                case measure => simp [intOf];omega
            ·have HE:Hid (R = 0):=HG0.out (HAG.out.2 ⟨HQ1.out,HMG.out,HDS.out,HRD.out,HTM.out,fun j hj => HK.out j (by omega)⟩)
             go_wp2_with fail;go_ret;exact ⟨by rw [HE.out];rfl,b3⟩
 ·have HE:Hid (R = z):=by show _ = _;rw [hRz,if_pos z0]
  have zb:(z != 0) = true:=by simpa using z0
  clear z0 hz hRz hR
  go_enter Tryz.func19,Tryz.ntmps19
  go_wp2_with fail;(try rw [hX]);clear hX;refine (HP.out X (HS.out.ext BX)).mono ?_;rintro e1 w1 ⟨rfl,hb1⟩;go_wp2_with fail;go_ret;exact ⟨by rw [HE.out];rfl,BX.trans (hb1.mono BX.size)⟩
theorem okW_two (s f:Int):okW (s,f,0) = true ↔ (0 ≤ s∧s < 256)∧(0 ≤ f∧f < 256):=by rw [okW_iff];simp
theorem fnd_ask {l:List Wr} {s z:Int} (h:askS l s 0 1 = z) (hz:z ≠ 0):findS l s = (0,z):=by
 unfold askS at h;unfold findS
 by_cases h0:(chkS l).1 ≠ 0
 ·rw [if_pos h0] at h
  rw [if_pos h0,h]
 ·rw [if_neg h0] at h
  rw [if_neg h0]
  by_cases h1:0 ≤ s∧s < 256
  ·rw [if_pos ⟨(okW_two s 0).2 ⟨h1,by decide⟩,by decide⟩] at h
   exact absurd h.symm hz
  ·rw [if_neg (fun h => h1 ((okW_two s 0).1 h.1).1)] at h
   rw [if_neg h1,h]
theorem fnd_go {l:List Wr} {s:Int} (h:askS l s 0 1 = 0):findS l s = (match l.findIdx? (fun x => decide (x.1 = s)) with | none => (0,6) | some i => (i,0)):=by
 unfold askS at h;unfold findS
 by_cases h0:(chkS l).1 ≠ 0
 ·rw [if_pos h0] at h
  exact absurd h h0
 ·rw [if_neg h0] at h
  by_cases h1:0 ≤ s∧s < 256
  ·rw [if_neg h0,if_pos h1]
   cases l.findIdx? (fun x => decide (x.1 = s)) <;> rfl
  ·rw [if_neg (fun h => h1 ((okW_two s 0).1 h.1).1)] at h
   cases h
theorem RFind_any (A:Option Addr) (c:Nat) (l:List Wr) (s:Int) (w:World) (ha:SW w A l) (la:l.length ≤ 1000) {n:Nat} {z:Int} (h:findS l s = (n,z)) :
  Calls Tryz.prog 96 #[.slice A l.length c,.int .i64 s] w fun e w' => e = .returned (.tuple #[.int .i64 n,.int .i64 z])∧Below w.heap.size w w':=by
 have HA:=Lib.hid ha
 clear ha
 obtain ⟨y,hy⟩:∃ y,askS l s 0 1 = y:=⟨_,rfl⟩
 by_cases h0:y = 0
 ·subst h0
  have hf:=fnd_go hy
  rw [h] at hf
  have HY:=Lib.hid hy
  clear hy
  cases hi:l.findIdx? (fun x => decide (x.1 = s)) with
  | none =>
   rw [hi] at hf
   obtain ⟨rfl,rfl⟩:=Prod.mk.inj hf
   have HR:Hid (rfnS l s = -1):=by show _ = _;unfold rfnS;rw [hi]
   clear hf h hi
   go_enter Tryz.func96,Tryz.ntmps96
   go_wp2_with (first | (go_at_call 116;with_reducible refine (asks_any _ _ _ _ _ _ _ HA.out la HY.out).mono ?_;rintro e w1 ⟨rfl,hb1⟩) | (go_at_call 154;with_reducible refine (rfind_any _ _ _ _ _ (HA.out.ext hb1) la).mono ?_;rw [HR.out];rintro e w2 ⟨rfl,hb2⟩))
   refine bodyPost_ret (by simp [results,Tryz.results96,go_sem] <;> rfl) rfl ?_
   exact ⟨rfl,zbl⟩
  | some k =>
   rw [hi] at hf
   obtain ⟨rfl,rfl⟩:=Prod.mk.inj hf
   have HR:Hid (rfnS l s = (n:Int)):=by show _ = _;unfold rfnS;rw [hi]
   clear hf h hi
   go_enter Tryz.func96,Tryz.ntmps96
   go_wp2_with (first | (go_at_call 116;with_reducible refine (asks_any _ _ _ _ _ _ _ HA.out la HY.out).mono ?_;rintro e w1 ⟨rfl,hb1⟩) | (go_at_call 154;with_reducible refine (rfind_any _ _ _ _ _ (HA.out.ext hb1) la).mono ?_;rw [HR.out];rintro e w2 ⟨rfl,hb2⟩))
   refine bodyPost_ret (by simp [results,Tryz.results96,go_sem] <;> rfl) rfl ?_
   exact ⟨rfl,zbl⟩
 ·have hf:=fnd_ask hy h0
  rw [h] at hf
  obtain ⟨rfl,rfl⟩:=Prod.mk.inj hf
  have hyb:(z != 0) = true:=by simpa using h0
  have HY:=Lib.hid hy
  clear hf h hy
  go_enter Tryz.func96,Tryz.ntmps96
  go_wp2_with (first | (go_at_call 116;with_reducible refine (asks_any _ _ _ _ _ _ _ HA.out la HY.out).mono ?_;rintro e w1 ⟨rfl,hb1⟩))
  refine bodyPost_ret (by simp [results,Tryz.results96,go_sem] <;> rfl) rfl ?_
  exact ⟨rfl,zbl⟩
end Go.Proofs.YthijbipidbjpfaaGreatDoor
