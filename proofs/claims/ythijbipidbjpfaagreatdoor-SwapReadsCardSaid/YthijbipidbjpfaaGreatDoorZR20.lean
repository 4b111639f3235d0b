import Derived.Test.YthijbipidbjpfaaGreatDoorZR19
import Derived.Test.YthijbipidbjpfaaGreatDoorZR00
import Derived.Test.YthijbipidbjpfaaGreatDoorZR04
import Derived.Test.YthijbipidbjpfaaGreatDoorZR14
import Derived.Test.YthijbipidbjpfaaGreatDoorZR03
import Derived.Test.YthijbipidbjpfaaGreatDoorZR06
set_option linter.unusedSimpArgs false
set_option linter.unusedVariables false
set_option maxRecDepth 100000
set_option maxHeartbeats 8000000
namespace Go.Proofs.YthijbipidbjpfaaGreatDoor
open Go.RowKit Go.Maps
theorem release_any (base B:Nat) (L:Lay) (s:Swp) (p:Int) (w:World) (h:WkAt w base B L s) (hf:Few s) (hwf:∀ v ∈ s.rd,(Lit.int .i64 v.2.2).wf = true) (hok:OkS s) (hp:1 ≤ p∧p ≤ 8) :
  Calls Tryz.prog 98 #[.pointer (some ⟨B,0,none⟩),.int .i64 p] w fun e w' => e = .returned (.tuple #[.bool ((wtW s).any fun x => decide (x.1 = p)),.int .i64 0])∧(∃ L',WkAt w' base B L' { s with wr:=relW s.wr p,rd:=relW s.rd p })∧Below base w w':=by
 obtain ⟨a0,c0,a1,c1,a2,c2,a3,c3,a4,c4,a5,c5,a6,c6,a7,c7⟩:=L
 obtain ⟨f0,f1,f2,f3,f4,f5,f6,f7⟩:=hf
 have HK:=Lib.hid h
 have HOK:=Lib.hid hok
 have HP:=Lib.hid hp
 have hlow:=h.low
 have hbw:base ≤ w.heap.size:=by have:=h.lt;omega
 have kB:Blk w B 87 (zkx s a0 c0 a1 c1 a2 c2 a3 c3 a4 c4 a5 c5 a6 c6 a7 c7).toArray:=h.blk
 have HWF:Hid ((Lit.int .i64 p).wf = true):=wf_i (by omega)
 have HC:=Lib.hid (waiting_any ⟨a0,c0,a1,c1,a2,c2,a3,c3,a4,c4,a5,c5,a6,c6,a7,c7⟩ s w h.own.o2.sr h.own.o3.sr hok.wr hwf f3)
 obtain ⟨T,hT⟩:∃ T,((wtW s).any fun x => decide (x.1 = p)) = T:=⟨_,rfl⟩
 rw [hT]
 have HT0:=Lib.hid hT
 have zB:=kB.lt
 clear h hok hp hwf hT
 obtain ⟨q0,q1,q2,q3,q4,q5,q6,q7,q8,q9,q10⟩:=zc11 kB
 go_enter Tryz.func98,Tryz.ntmps98
 go_wp2_with fail
 refine HC.out.mono ?_
 rintro e1 w1 ⟨hb1,⟨_,M,m,rfl,hM,hMl⟩ | ⟨hw,_⟩⟩
 ·have B1:Below base w w1:=hb1.mono hbw
  have HK1:=Lib.hid (HK.out.ext hb1)
  have hb1s:base ≤ w1.heap.size:=B1.size |> Nat.le_trans hbw
  obtain ⟨o,ho⟩:∃ o,lkV (wtV s) p = o:=⟨_,rfl⟩
  have HLK:=Lib.hid ho
  have HM:=Lib.hid hM
  clear hb1 hM hMl ho q0 q1 q2 q3 q4 q5 q6 q7 q8 q9 q10 kB zB
  cases o with
  | none =>
   have hlk:=wtT_look HM.out p HWF.out (v:=(false,0)) (b:=false) (by rw [HLK.out];rfl) (by rw [HLK.out];rfl)
   have HT:Hid (T = false):=by show _ = _;rw [← HT0.out,any_wtW,HLK.out];rfl
   have hRW:=rel_read HOK.out HP.out (fun m e => by rw [HLK.out] at e;cases e)
   have HRW:=Lib.hid hRW
   clear hRW
   go_upto_region 6 with fail
   obtain ⟨V2,hV2⟩:∃ V2,w1.alloc (.cells #[.bool false,.int .i64 0] 128) = V2:=⟨_,rfl⟩
   have kN:=za hV2
   have zN:=kN.lt
   obtain ⟨n0,-⟩:=zc2 kN
   have BA:=zab hV2
   have HK2:=Lib.hid (HK1.out.ext BA)
   have BW2:Below base w V2:=B1.trans (BA.mono hb1s)
   (try rw [hV2])
   clear hV2 hlk
   have kB2:Blk V2 B 87 (zkx s a0 c0 a1 c1 a2 c2 a3 c3 a4 c4 a5 c5 a6 c6 a7 c7).toArray:=HK2.out.blk
   have zB2:=kB2.lt
   obtain ⟨-,-,-,-,u4,-⟩:=zc11 kB2
   go_wp2_with fail
   clear u4
   go_loopw [53] (fun i wr => ∃ k:Nat,k ≤ s.rd.length∧i = .int .i64 k∧Hid (WkAt wr base B ⟨a0,c0,a1,c1,a2,c2,a3,c3,a4,c4,a5,c5,a6,c6,a7,c7⟩ { s with rd:=relW (s.rd.take k) p ++ s.rd.drop k })∧Below base w wr) (fun i _ => s.rd.length - (intOf i).toNat)
   case atStart => exact ⟨0,by omega,rfl,(by show WkAt _ _ _ _ _;have e:relW (s.rd.take 0) p ++ s.rd.drop 0 = s.rd:=(by simp [relW]);rw [e];exact HK2.out),BW2⟩
   case round =>
    obtain ⟨k,hk,rfl,HW,hb⟩:=hrel
    have kBr:Blk wr B 87 (zkx s a0 c0 a1 c1 a2 c2 a3 c3 a4 c4 a5 c5 a6 c6 a7 c7).toArray:=by
     have:=HW.out.blk
     unfold swC at this
     dsimp only at this
     rw [rel_len] at this
     exact this
    have zBr:=kBr.lt
    obtain ⟨-,-,-,-,u4,-⟩:=zc11 kBr
    by_cases hlt:k < s.rd.length
    ·have i1:(k:Int) < s.rd.length:=by omega
     obtain ⟨x,hx⟩:∃ x,s.rd[k]? = some x:=⟨_,List.getElem?_eq_getElem hlt⟩
     have HX:=Lib.hid hx
     obtain ⟨g,rfl,hg,hgl,hgc,hgf,hput⟩:=HW.out.putR (rel_at (p:=p) hx)
     obtain ⟨x0,x1,x2⟩:=x
     dsimp only at hgc hput
     have HPUT:=Lib.hid hput
     clear hx hput
     by_cases e2:x2 = p
     ·subst e2
      have HN:=Lib.hid (rel_hit HX.out rfl)
      go_wp2_with fail
      go_roundw
      case rel =>
       refine ⟨k + 1,by omega,by go_num,?_,hb.setCell (p:=⟨g,k * 3 + 2,none⟩) hg _⟩
       have:=HPUT.out 0
       (try dsimp only at this)
       have e:=HN.out
       (try dsimp only at e)
       rw [e] at this
       exact this
      case measure => simp [intOf];omega
     ·have e2b:(x2 == p) = false:=by simpa using e2
      have HN:=Lib.hid (rel_miss HX.out e2)
      clear e2
      go_wp2_with fail
      go_roundw
      case rel =>
       refine ⟨k + 1,by omega,by go_num,?_,hb⟩
       have e:=HN.out
       rw [← e]
       exact HW
      case measure => simp [intOf];omega
    ·obtain rfl:k = s.rd.length:=by omega
     go_wp2_with fail
     refine bodyPost_ret (by simp [results,Tryz.results98,go_sem] <;> rfl) rfl ?_
     refine ⟨by rw [HT.out],⟨⟨a0,c0,a1,c1,a2,c2,a3,c3,a4,c4,a5,c5,a6,c6,a7,c7⟩,?_⟩,hb⟩
     have:=HW.out
     rw [List.take_length,List.drop_length,List.append_nil] at this
     rw [HRW.out]
     exact this
  | some y =>
   obtain ⟨y0,y1⟩:=y
   have hlk:=wtT_look HM.out p HWF.out (v:=(y0,y1)) (b:=true) (by rw [HLK.out];rfl) (by rw [HLK.out];rfl)
   have HT:Hid (T = true):=by show _ = _;rw [← HT0.out,any_wtW,HLK.out];rfl
   obtain ⟨V2,hV2⟩:∃ V2,w1.alloc (.cells #[.bool y0,.int .i64 y1] 128) = V2:=⟨_,rfl⟩
   have kN:=za hV2
   have zN:=kN.lt
   obtain ⟨n0,-⟩:=zc2 kN
   have BA:=zab hV2
   have HK2:=Lib.hid (HK1.out.ext BA)
   have BW2:Below base w V2:=B1.trans (BA.mono hb1s)
   cases y0 with
   | false =>
    have hRW:=rel_read HOK.out HP.out (fun m e => by rw [HLK.out] at e;cases e)
    have HRW:=Lib.hid hRW
    clear hRW
    go_upto_region 6 with fail
    (try rw [hV2])
    clear hV2 hlk
    have kB2:Blk V2 B 87 (zkx s a0 c0 a1 c1 a2 c2 a3 c3 a4 c4 a5 c5 a6 c6 a7 c7).toArray:=HK2.out.blk
    have zB2:=kB2.lt
    obtain ⟨-,-,-,-,u4,-⟩:=zc11 kB2
    go_wp2_with fail
    clear u4
    go_loopw [53] (fun i wr => ∃ k:Nat,k ≤ s.rd.length∧i = .int .i64 k∧Hid (WkAt wr base B ⟨a0,c0,a1,c1,a2,c2,a3,c3,a4,c4,a5,c5,a6,c6,a7,c7⟩ { s with rd:=relW (s.rd.take k) p ++ s.rd.drop k })∧Below base w wr) (fun i _ => s.rd.length - (intOf i).toNat)
    case atStart => exact ⟨0,by omega,rfl,(by show WkAt _ _ _ _ _;have e:relW (s.rd.take 0) p ++ s.rd.drop 0 = s.rd:=(by simp [relW]);rw [e];exact HK2.out),BW2⟩
    case round =>
     obtain ⟨k,hk,rfl,HW,hb⟩:=hrel
     have kBr:Blk wr B 87 (zkx s a0 c0 a1 c1 a2 c2 a3 c3 a4 c4 a5 c5 a6 c6 a7 c7).toArray:=by
      have:=HW.out.blk
      unfold swC at this
      dsimp only at this
      rw [rel_len] at this
      exact this
     have zBr:=kBr.lt
     obtain ⟨-,-,-,-,u4,-⟩:=zc11 kBr
     by_cases hlt:k < s.rd.length
     ·have i1:(k:Int) < s.rd.length:=by omega
      obtain ⟨x,hx⟩:∃ x,s.rd[k]? = some x:=⟨_,List.getElem?_eq_getElem hlt⟩
      have HX:=Lib.hid hx
      obtain ⟨g,rfl,hg,hgl,hgc,hgf,hput⟩:=HW.out.putR (rel_at (p:=p) hx)
      obtain ⟨x0,x1,x2⟩:=x
      dsimp only at hgc hput
      have HPUT:=Lib.hid hput
      clear hx hput
      by_cases e2:x2 = p
      ·subst e2
       have HN:=Lib.hid (rel_hit HX.out rfl)
       go_wp2_with fail
       go_roundw
       case rel =>
        refine ⟨k + 1,by omega,by go_num,?_,hb.setCell (p:=⟨g,k * 3 + 2,none⟩) hg _⟩
        have:=HPUT.out 0
        (try dsimp only at this)
        have e:=HN.out
        (try dsimp only at e)
        rw [e] at this
        exact this
       case measure => simp [intOf];omega
      ·have e2b:(x2 == p) = false:=by simpa using e2
       have HN:=Lib.hid (rel_miss HX.out e2)
       clear e2
       go_wp2_with fail
       go_roundw
       case rel =>
        refine ⟨k + 1,by omega,by go_num,?_,hb⟩
        have e:=HN.out
        rw [← e]
        exact HW
       case measure => simp [intOf];omega
     ·obtain rfl:k = s.rd.length:=by omega
      go_wp2_with fail
      refine bodyPost_ret (by simp [results,Tryz.results98,go_sem] <;> rfl) rfl ?_
      refine ⟨by rw [HT.out],⟨⟨a0,c0,a1,c1,a2,c2,a3,c3,a4,c4,a5,c5,a6,c6,a7,c7⟩,?_⟩,hb⟩
      have:=HW.out
      rw [List.take_length,List.drop_length,List.append_nil] at this
      rw [HRW.out]
      exact this
   | true =>
    obtain ⟨r1,r2⟩:=rel_write HOK.out HP.out HLK.out
    have HR1:=Lib.hid r1
    have HR2:=Lib.hid r2
    clear r1 r2
    go_upto_region 4 with fail
    (try rw [hV2])
    clear hV2 hlk
    have hb2s:base ≤ V2.heap.size:=Nat.le_trans hb1s BA.size
    have kB2:Blk V2 B 87 (zkx s a0 c0 a1 c1 a2 c2 a3 c3 a4 c4 a5 c5 a6 c6 a7 c7).toArray:=HK2.out.blk
    have zB2:=kB2.lt
    obtain ⟨-,-,-,u3,-⟩:=zc11 kB2
    have hU:=Unclaim_own a2 c2 s.wr p V2 HK2.out.own.o2.sr.sw f2
    rw [HR1.out] at hU
    have HU:=Lib.hid hU
    clear hU
    go_wp2_with fail
    refine HU.out.mono ?_
    rintro e3 w3 ⟨A,c,rfl,hcw,hb3,hmine⟩
    dsimp only at hcw hmine
    dsimp only
    have hlen:=hcw.2
    have kB3:=kB2.below_ hb3 zB2
    have zB3:=kB3.lt
    clear u3 hcw
    obtain ⟨-,-,-,u3,-⟩:=zc11 kB3
    have uf3:=kB3.frozen_ 3
    go_upto_region 5 with fail
    obtain ⟨W4,hW4⟩:∃ W4,w3.setCell ⟨B,3,none⟩ (.slice A (relW s.wr p).length c) = W4:=⟨_,rfl⟩
    have K4:WkAt W4 base B ⟨a0,c0,a1,c1,A,c,a3,c3,a4,c4,a5,c5,a6,c6,a7,c7⟩ { s with wr:=relW s.wr p }:=by rw [← hW4];exact HK2.out.writes hb3 (OwnM.of_mine hmine hlen)
    have B4:Below base w W4:=by rw [← hW4];exact (BW2.trans (hb3.mono hb2s)).setCell (p:=⟨B,3,none⟩) hlow _
    have HK4:=Lib.hid K4
    rw [hW4]
    clear hW4 u3 uf3 K4
    go_wp2_with fail
    refine bodyPost_ret (by simp [results,Tryz.results98,go_sem] <;> rfl) rfl ?_
    refine ⟨by rw [HT.out],⟨⟨a0,c0,a1,c1,A,c,a3,c3,a4,c4,a5,c5,a6,c6,a7,c7⟩,?_⟩,B4⟩
    rw [HR2.out]
    exact HK4.out
 ·rw [wtok_of HOK.out] at hw
  cases hw
theorem Kill_any (L:Lay) (s:Swp) (p:Int) (w:World) (h:SwA w L s) (hz:TZ w) :
  Calls Tryz.prog 34 #[swV L s,.int .i64 p] w (SwPost (kilW s p).1 [.bool (kilW s p).2.1,.int .i64 (kilW s p).2.2] w):=by
 obtain ⟨a0,c0,a1,c1,a2,c2,a3,c3,a4,c4,a5,c5,a6,c6,a7,c7⟩:=L
 have HA:=Lib.hid h
 have HZ:=Lib.hid hz
 have HW0:0 < w.heap.size:=hz.pos
 obtain ⟨Q,hQ⟩:∃ Q,kilW s p = Q:=⟨_,rfl⟩
 rw [hQ]
 have HQ:=Lib.hid hQ
 clear hQ h hz
 unfold swV swC
 obtain ⟨X,hX⟩:∃ X,(w.alloc (.cells (zkx s a0 c0 a1 c1 a2 c2 a3 c3 a4 c4 a5 c5 a6 c6 a7 c7).toArray 35)).alloc (.cells zkz.toArray 35) = X:=⟨_,rfl⟩
 have kX:=za1 hX
 have kR:=za2 hX
 have BX:Below w.heap.size w X:=by rw [← hX];exact zbl
 obtain ⟨z,hzz⟩:∃ z,chkW s = z:=⟨_,rfl⟩
 have HZZ:=Lib.hid hzz
 have hC:=wCheck_any ⟨a0,c0,a1,c1,a2,c2,a3,c3,a4,c4,a5,c5,a6,c6,a7,c7⟩ s X (HA.out.ext BX) (HZ.out.ext HW0 BX)
 rw [hzz] at hC
 have HC:=Lib.hid hC
 clear hC hzz
 have zkX:=kX.lt
 obtain ⟨q0,q1,q2,q3,q4,q5,q6,q7,q8,q9,q10⟩:=zc11 kX
 go_enter Tryz.func34,Tryz.ntmps34
 go_wp2_with fail
 (try rw [hX])
 clear hX
 refine HC.out.mono ?_
 rintro e1 w1 ⟨rfl,hb1⟩
 have B1:=zbt BX hb1
 replace kX:=kX.below_ hb1 kX.lt
 replace kR:=kR.below_ hb1 kR.lt
 clear hb1
 clear zkX q0 q1 q2 q3 q4 q5 q6 q7 q8 q9 q10
 by_cases z0:z = 0
 ·subst z0
  have HOK:Hid (OkS s):=chkW_ok.1 HZZ.out
  cases d1:decide (1 ≤ p∧p ≤ 8) with
  | false =>
   have HE:Hid (Q = (.zero,false,2)):=by show _ = _;rw [← HQ.out];unfold kilW;have:=of_decide_eq_false d1;rw [HZZ.out,if_neg (by simp),if_pos (by omega)]
   have ztR:=kR.lt
   obtain ⟨t0,t1,t2,t3,t4,t5,t6,t7,t8,t9,t10⟩:=zc11 kR
   obtain ⟨tf0,tf1,tf2,tf3,tf4,tf5,tf6,tf7,tf8,tf9,tf10,-⟩:=zf kR
   go_wp2_with (go_at_call 97;refine (swProc_b _ _ d1 _).mono ?_;rintro e w' ⟨rfl,rfl⟩)
   obtain ⟨W,hW⟩:∃ W,setN w1 (w.heap.size + 1) 0 zkz = W:=⟨_,rfl⟩
   have hWn:=zs11 hW
   have kW:=zsw hW kR
   have bW:=zbw hW B1 (by omega)
   rw [hWn]
   clear hWn hW t0 tf0 t1 tf1 t2 tf2 t3 tf3 t4 tf4 t5 tf5 t6 tf6 t7 tf7 t8 tf8 t9 tf9 t10 tf10
   refine bodyPost_ret (by simp [results,Tryz.results34,go_sem,zc11 kW] <;> rfl) rfl ?_
   rw [HE.out]
   exact ⟨.zero,rfl,SwO.zero,bW⟩
  | true =>
   have HP:=Lib.hid (of_decide_eq_true d1)
   have HL:=Lib.hid (load_any ⟨a0,c0,a1,c1,a2,c2,a3,c3,a4,c4,a5,c5,a6,c6,a7,c7⟩ s w1 (HA.out.sw.ext B1) HA.out.few)
   have zkX:=kX.lt
   obtain ⟨q0,q1,q2,q3,q4,q5,q6,q7,q8,q9,q10⟩:=zc11 kX
   go_wp2_with (go_at_call 97;refine (swProc_b _ _ d1 _).mono ?_;rintro e w' ⟨rfl,rfl⟩)
   refine HL.out.mono ?_
   rintro e2 w2 ⟨B,⟨b0,k0,b1,k1,b2,k2,b3,k3,b4,k4,b5,k5,b6,k6,b7,k7⟩,rfl,K2,hb2⟩
   have HKR:w.heap.size + 1 < w1.heap.size:=kR.lt
   have HK2:=Lib.hid K2
   have hBlow:w1.heap.size ≤ B:=K2.low
   have kB:Blk w2 B 87 (zkx s b0 k0 b1 k1 b2 k2 b3 k3 b4 k4 b5 k5 b6 k6 b7 k7).toArray:=K2.blk
   have hbL:w1.heap.size ≤ w2.heap.size:=hb2.size
   have B2:=zbt B1 hb2
   replace kX:=kX.below_ hb2 kX.lt
   replace kR:=kR.below_ hb2 kR.lt
   clear hb2
   clear zkX q0 q1 q2 q3 q4 q5 q6 q7 q8 q9 q10
   clear K2
   have hRL:=Lib.hid (release_any w1.heap.size B ⟨b0,k0,b1,k1,b2,k2,b3,k3,b4,k4,b5,k5,b6,k6,b7,k7⟩ s p w2 HK2.out HA.out.few HA.out.wf HOK.out HP.out)
   obtain ⟨T,hT⟩:∃ T,((wtW s).any fun x => decide (x.1 = p)) = T:=⟨_,rfl⟩
   rw [hT] at hRL
   have HE:Hid (Q = ({ s with wr:=relW s.wr p,rd:=relW s.rd p },T,0)):=by show _ = _;rw [← HQ.out];unfold kilW;have:=HP.out;rw [HZZ.out,if_neg (by simp),if_neg (by omega),hT]
   clear hT HK2 kB
   go_wp2_with fail
   refine hRL.out.mono ?_
   rintro e5 w5 ⟨rfl,⟨⟨b0,k0,b1,k1,b2,k2,b3,k3,b4,k4,b5,k5,b6,k6,b7,k7⟩,K5⟩,hb5⟩
   obtain ⟨S5,hS5⟩:∃ S5,({ s with wr:=relW s.wr p,rd:=relW s.rd p }:Swp) = S5:=⟨_,rfl⟩
   rw [hS5] at K5 HE
   have kB6:Blk w5 B 87 (zkx S5 b0 k0 b1 k1 b2 k2 b3 k3 b4 k4 b5 k5 b6 k6 b7 k7).toArray:=K5.blk
   have HO5:=Lib.hid K5.own
   have kR5:=kR.below_ hb5 HKR
   have B5:Below w.heap.size w w5:=B2.trans (hb5.mono (by have:=B1.size;omega))
   clear K5 hS5
   have ztR:=kR5.lt
   have ztB:=kB6.lt
   obtain ⟨t0,t1,t2,t3,t4,t5,t6,t7,t8,t9,t10⟩:=zc11 kR5
   obtain ⟨tf0,tf1,tf2,tf3,tf4,tf5,tf6,tf7,tf8,tf9,tf10,-⟩:=zf kR5
   obtain ⟨u0,u1,u2,u3,u4,u5,u6,u7,u8,u9,u10⟩:=zc11 kB6
   go_wp2_with fail
   obtain ⟨W,hW⟩:∃ W,setN w5 (w.heap.size + 1) 0 (zkx S5 b0 k0 b1 k1 b2 k2 b3 k3 b4 k4 b5 k5 b6 k6 b7 k7) = W:=⟨_,rfl⟩
   have hWn:=zs11 hW
   have kW:=zsw hW kR5
   have bW:=zbw hW B5 (by omega)
   have oW:SwO W w1.heap.size ⟨b0,k0,b1,k1,b2,k2,b3,k3,b4,k4,b5,k5,b6,k6,b7,k7⟩ S5:=by rw [← hW];exact HO5.out.farN HKR _
   rw [hWn]
   clear hWn hW t0 tf0 t1 tf1 t2 tf2 t3 tf3 t4 tf4 t5 tf5 t6 tf6 t7 tf7 t8 tf8 t9 tf9 t10 tf10
   refine bodyPost_ret (by simp [results,Tryz.results34,go_sem,zc11 kW] <;> rfl) rfl ?_
   rw [HE.out]
   exact ⟨⟨b0,k0,b1,k1,b2,k2,b3,k3,b4,k4,b5,k5,b6,k6,b7,k7⟩,rfl,oW.base_ (by have:=B1.size;have:=B5.size;omega),bW⟩
 ·have HE:Hid (Q = (.zero,false,z)):=by show _ = _;rw [← HQ.out];unfold kilW;rw [HZZ.out,if_pos (by simpa using z0)]
  have zb:(z != 0) = true:=by simpa using z0
  clear z0
  have ztR:=kR.lt
  obtain ⟨t0,t1,t2,t3,t4,t5,t6,t7,t8,t9,t10⟩:=zc11 kR
  obtain ⟨tf0,tf1,tf2,tf3,tf4,tf5,tf6,tf7,tf8,tf9,tf10,-⟩:=zf kR
  go_wp2_with fail
  obtain ⟨W,hW⟩:∃ W,setN w1 (w.heap.size + 1) 0 zkz = W:=⟨_,rfl⟩
  have hWn:=zs11 hW
  have kW:=zsw hW kR
  have bW:=zbw hW B1 (by omega)
  rw [hWn]
  clear hWn hW t0 tf0 t1 tf1 t2 tf2 t3 tf3 t4 tf4 t5 tf5 t6 tf6 t7 tf7 t8 tf8 t9 tf9 t10 tf10
  refine bodyPost_ret (by simp [results,Tryz.results34,go_sem,zc11 kW] <;> rfl) rfl ?_
  rw [HE.out]
  exact ⟨.zero,rfl,SwO.zero,bW⟩
section
variable {w w1 : World} {base B : Nat} {L : Lay} {s : Swp}
theorem WkAt.desc (h:WkAt w base B L s) (hb1:Below base w w1) (hk1:KeptE L.a4 L.c4 w w1) {A:Option Addr} {c:Nat} {l:List Int} (hn:Near L.a4 L.c4 w A) (oI:OwnE intE w1 base A c l) :
  WkAt (w1.setCell ⟨B,5,none⟩ (.slice A l.length c)) base B { L with a4:=A,c4:=c } { s with desc:=l }:=by
 have hk:=hk1.blk h.blk (h.own.o4.notT h.blk (by decide))
 have m:=h.own.keptD hk1
 have m2:SwO w1 base { L with a4:=A,c4:=c } { s with desc:=l }:=
  ⟨m.o0,m.o1,m.o2,m.o3,oI,m.o5,m.o6,m.o7,h.own.p0.near h.own.o0 hn,h.own.p7.near h.own.o7 hn⟩
 exact ⟨hk.set_ 5 _,m2.farB hk 5 _,h.low⟩
theorem WkAt.farV (h:WkAt w base B L s) {b:Nat} {cs:Array Value} (hV:Blk w b 106 cs) (i:Nat) (u:Value) (o2:OwnM wrE (w.setCell ⟨b,i,none⟩ u) base L.a2 L.c2 s.wr):WkAt (w.setCell ⟨b,i,none⟩ u) base B L s:=by
 have hne:B ≠ b:=by
  intro e2;have h1:=h.blk;rw [e2] at h1;unfold Blk at h1 hV;rw [hV] at h1;injection h1 with h1
  injection h1 with _ h1
  revert h1
  decide
 have x:=h.own;exact ⟨h.blk.far_ (p:=⟨b,i,none⟩) hne u,⟨x.o0.farB hV (by decide) _ _,x.o1.farB hV (by decide) _ _,o2,x.o3.farB hV (by decide) _ _,x.o4.farB hV (by decide) _ _,x.o5.farB hV (by decide) _ _,x.o6.farB hV (by decide) _ _,x.o7.farB hV (by decide) _ _,x.p0,x.p7⟩,h.low⟩
theorem KeptE.of_grown {g c:Nat} (hg:w.grownBy w1 (some g)) (hc:c ≠ 0):KeptE (some ⟨g,0,none⟩) c w w1:=fun b hb hn => hg.block b hb (fun e => hn hc (by simpa using e.symm))
end
def KeepT (w w':World):Prop:=∀ b t cs,Blk w b t cs→t ≠ 87→t ≠ 100→Blk w' b t cs
theorem Blk.ne {w:World} {b b':Nat} {t t':TypeId} {cs cs':Array Value} (h:Blk w b t cs) (h':Blk w b' t' cs') (ht:t ≠ t'):b ≠ b':=by
 intro e;subst e;unfold Blk at h h';rw [h] at h';injection h' with h1
 injection h1 with _ h1
 exact ht h1
def RmF (W:List Wr) (x:Wr) (v:Value) (lo _hi:Nat) (w:World):Prop:=∃ A c,v = .tuple #[.slice A W.length c,.agg #[.int .i64 x.1,.int .i64 x.2.1,.int .i64 x.2.2],.int .i64 0]∧OwnM wrE w lo A c W
theorem RmF.lasts (W:List Wr) (x:Wr):(Fk.has (RmF W x)).lasts:=fun _ _ _ _ _ ⟨A,c,e,h⟩ hb => ⟨A,c,e,h.ext hb⟩
theorem end_wr (base B:Nat) (L:Lay) (s:Swp) (j:Jb) (w:World) (h:WkAt w base B L s) (f2:s.wr.length ≤ 1000) (f3:s.rd.length ≤ 1000) (hj:j.wr = true) {W:List Wr} {v:Wr} (h1:remS s.wr j.slot = (W,v,0)) :
  Calls Tryz.prog 140 #[.pointer (some ⟨B,0,none⟩),jbV j] w fun e w' => e = .returned (.tuple #[.int .i64 v.2.2,.int .i64 0])∧(∃ L',WkAt w' base B L' { s with wr:=W })∧Below base w w'∧KeepT w w':=by
 obtain ⟨a0,c0,a1,c1,a2,c2,a3,c3,a4,c4,a5,c5,a6,c6,a7,c7⟩:=L
 obtain ⟨jw,js_,jf,⟨e0,e1,e2,e3,e4,e5,e6,e7⟩⟩:=j
 dsimp only at hj h1
 subst hj
 show Calls _ _ #[_,.agg (zkj true js_ jf e0 e1 e2 e3 e4 e5 e6 e7).toArray] _ _
 have hlow:=h.low
 have hbw:base ≤ w.heap.size:=by have:=h.lt;omega
 obtain ⟨X,hX⟩:∃ X,(w.alloc (.cells (zkj true js_ jf e0 e1 e2 e3 e4 e5 e6 e7).toArray 115)).alloc (.cells #[.int .i64 0,.int .i64 0,.int .i64 0] 106) = X:=⟨_,rfl⟩
 have BX:Below w.heap.size w X:=by rw [← hX];exact zbl
 have kJ:=za1 hX
 have kV:=za2 hX
 have K:=h.ext BX
 have HK:=Lib.hid K
 have kB:Blk X B 87 (zkx s a0 c0 a1 c1 a2 c2 a3 c3 a4 c4 a5 c5 a6 c6 a7 c7).toArray:=K.blk
 have hBV:B < w.heap.size:=h.lt
 have hXs:w.heap.size + 1 < X.heap.size:=kV.lt
 have hD:∀ V,Below X.heap.size X V→_:=fun V hV => Remove_own a2 c2 s.wr js_ V ⟨(HK.out.own.o2.sr.ext hV).sw,HK.out.own.o2.len⟩ f2
 rw [h1] at hD
 have HD:=Lib.hid hD
 have hbX:base ≤ X.heap.size:=Nat.le_trans hbw BX.size
 clear h h1 hD K
 have zJ0:=kJ.lt
 have zV0:=kV.lt
 obtain ⟨qj0,-⟩:=zc11 kJ
 go_enter Tryz.func140,Tryz.ntmps140
 go_upto_region 3 with fail
 (try rw [hX])
 clear hX qj0 zJ0 zV0
 refine zrg [0,0,0,0,0,1,0,1,2,0,0,0,0,0,0,0,3,3,0] [[],[],[],[],[],[],[],[],[],[8],[9],[9],[9],[],[],[],[],[],[12]] [.is ?_,.is ?_,.is ?_,.is ?_,.is ?_,.kn ?_,.is ?_,.kn ?_,.has (RmF W v),.fn [8] fst_,.fn [9] (fun l => tupAt (fst_ l) 0),.fn [9] (fun l => tupAt (fst_ l) 1),.fn [9] (fun l => tupAt (fst_ l) 2),.is ?_,.is ?_,.is ?_,.late,.late,.fn [12] fst_] [16,17] (lts_is (lts_is (lts_is (lts_is (lts_is (lts_kn (lts_is (lts_kn (lts_has (RmF.lasts W v) (lts_fn (lts_fn (lts_fn (lts_fn (lts_is (lts_is (lts_is (lts_late (lts_late (lts_fn lts_nil))))))))))))))))))) (fun W0 hb0 hz0 => ?_)
 rotate_left 11
 have kW:=kB.below_ hb0 kB.lt
 have kJ0:=kJ.below_ hb0 kJ.lt
 have zW:=kW.lt
 have zJ:=kJ0.lt
 obtain ⟨-,-,-,p3,-⟩:=zc11 kW
 obtain ⟨-,p1,-⟩:=zc11 kJ0
 refine zqp ?_
 refine zqp ?_
 refine zqp ?_
 refine zqp ?_
 refine zqp ?_
 refine zqT (fun w hbw hd => ?_) ?_
 ·have r3:=cell_keep hbw p3 zW
  exact zgs
 refine zqp ?_
 refine zqT (fun w hbw hd => ?_) ?_
 ·have r1:=cell_keep hbw p1 zJ
  exact zgs
 refine zqh (fun w hbw hd K Q' hK => ?_) (fun vew8 => ?_)
 ·clear hd
  go_simp
  refine (HD.out _ (hb0.trans (hbw.mono hb0.size))).mono ?_
  rintro e y ⟨A3,d3,rfl,hcw,hy,hm⟩
  go_wp2_with fail
  exact hK.out (.tuple #[.slice A3 W.length d3,.agg #[.int .i64 v.1,.int .i64 v.2.1,.int .i64 v.2.2],.int .i64 0]) _ _ zpt zbm ⟨A3,d3,rfl,OwnM.of_mine hm hcw.2⟩
 refine zqf (vew8) ?_
 refine zqF (tupAt (vew8) 0) (fun w0 hd w => ?_) ?_
 ·obtain ⟨_,_,A3,d3,rfl,_⟩:∃ lo hi,RmF W v vew8 lo hi w0:=hd 8 _ _ (by kernel_rfl) rfl rfl
  exact zsr
 refine zqF (tupAt (vew8) 1) (fun w0 hd w => ?_) ?_
 ·obtain ⟨_,_,A3,d3,rfl,_⟩:∃ lo hi,RmF W v vew8 lo hi w0:=hd 8 _ _ (by kernel_rfl) rfl rfl
  exact zsr
 refine zqF (tupAt (vew8) 2) (fun w0 hd w => ?_) ?_
 ·obtain ⟨_,_,A3,d3,rfl,_⟩:∃ lo hi,RmF W v vew8 lo hi w0:=hd 8 _ _ (by kernel_rfl) rfl rfl
  exact zsr
 refine zqp ?_
 refine zqp ?_
 refine zqp ?_
 refine zql ?_
 refine zql ?_
 refine zqf (tupAt (vew8) 2) ?_
 refine chn_end (fun wz lo hi hbz hd hR => ?_)
 obtain ⟨A3,d3,rfl,oM⟩:RmF W v vew8 (lo 8) (hi 8) wz:=hd 8 _ _ rfl rfl
 have r9:=(hR.2 8 _ rfl).1
 have hsz:=hb0.size
 have BZ:Below X.heap.size X wz:=hb0.trans (hbz.mono hsz)
 have kBz:=kB.below_ BZ kB.lt
 have zBz:=kBz.lt
 have kVz:=kV.below_ BZ kV.lt
 have zVz:=kVz.lt
 clear hd hR p3 p1
 obtain ⟨-,-,-,m3,-⟩:=zc11 kBz
 have mf3:=kBz.frozen_ 3
 obtain ⟨n0,n1,n2⟩:=zc3 kVz
 obtain ⟨nf0,nf1,nf2,-⟩:=zf kVz
 simp only [tupAt,List.getD_cons_succ,List.getD_cons_zero,Array.getD_eq_getD_getElem?,zy5,zy6,zy7,Option.getD_some]
 refine late_cons (by kernel_rfl) (by simp only [zy5,zy6,zy7];rfl) (fun K Q' hK => ?_)
 go_simp
 refine hK.out _ ?_
 clear hK K Q'
 refine late_cons (by kernel_rfl) (by simp only [zy5,zy6,zy7];rfl) (fun K Q' hK => ?_)
 go_simp
 refine hK.out _ ?_
 clear hK K Q'
 refine late_none ?_
 obtain ⟨W3,hW3⟩:∃ W3,(((wz.setCell ⟨B,3,none⟩ (.slice A3 W.length d3)).setCell ⟨w.heap.size + 1,0,none⟩ (.int .i64 v.1)).setCell ⟨w.heap.size + 1,1,none⟩ (.int .i64 v.2.1)).setCell ⟨w.heap.size + 1,2,none⟩ (.int .i64 v.2.2) = W3:=⟨_,rfl⟩
 have K3:WkAt W3 base B ⟨a0,c0,a1,c1,A3,d3,a3,c3,a4,c4,a5,c5,a6,c6,a7,c7⟩ { s with wr:=W }:=by
  rw [← hW3]
  have hlo:base ≤ lo 8:=by omega
  have hVlo:w.heap.size + 1 < lo 8:=by omega
  have k0:WkAt _ base B ⟨a0,c0,a1,c1,A3,d3,a3,c3,a4,c4,a5,c5,a6,c6,a7,c7⟩ { s with wr:=W }:=HK.out.writes BZ (oM.base_ (by omega))
  have m0:=oM.farB kBz (by decide) 3 (.slice A3 W.length d3)
  have kV1:Blk _ (w.heap.size + 1) _ _:=kVz.far_ (p:=⟨B,3,none⟩) (by show _ ≠ B;omega) (.slice A3 W.length d3)
  have m1:=m0.far (p:=⟨w.heap.size + 1,0,none⟩) hVlo (.int .i64 v.1)
  have k1:=k0.farV kV1 0 (.int .i64 v.1) (m1.base_ hlo)
  have kV2:=kV1.set_ 0 (.int .i64 v.1)
  have m2:=m1.far (p:=⟨w.heap.size + 1,1,none⟩) hVlo (.int .i64 v.2.1)
  have k2:=k1.farV kV2 1 (.int .i64 v.2.1) (m2.base_ hlo)
  have kV3:=kV2.set_ 1 (.int .i64 v.2.1)
  have m3:=m2.far (p:=⟨w.heap.size + 1,2,none⟩) hVlo (.int .i64 v.2.2)
  exact k2.farV kV3 2 (.int .i64 v.2.2) (m3.base_ hlo)
 have kV3:Blk W3 (w.heap.size + 1) 106 #[.int .i64 v.1,.int .i64 v.2.1,.int .i64 v.2.2]:=by
  rw [← hW3]
  have kV1:Blk _ (w.heap.size + 1) _ _:=kVz.far_ (p:=⟨B,3,none⟩) (by show _ ≠ B;omega) (.slice A3 W.length d3)
  exact ((kV1.set_ 0 _).set_ 1 _).set_ 2 _
 have B3:Below base w W3:=by rw [← hW3];exact ((((BX.mono hbw).trans (BZ.mono hbX)).setCell (p:=⟨B,3,none⟩) hlow _).setCell (p:=⟨w.heap.size + 1,0,none⟩) (by show base ≤ w.heap.size + 1;omega) _).setCell (p:=⟨w.heap.size + 1,1,none⟩) (by show base ≤ w.heap.size + 1;omega) _ |>.setCell (p:=⟨w.heap.size + 1,2,none⟩) (by show base ≤ w.heap.size + 1;omega) _
 have HK3:=Lib.hid K3
 have HKT:Hid (KeepT w W3):=by
  show KeepT _ _
  intro b t cs hb h1 h2
  have hbl:=hb.lt
  have hbX:=hb.below_ BX hbl
  have x0:=hbX.below_ BZ hbX.lt
  have hne:=Blk.ne x0 kBz h1
  rw [← hW3]
  exact (((x0.far_ (p:=⟨B,3,none⟩) hne _).far_ (p:=⟨w.heap.size + 1,0,none⟩) (by show b ≠ w.heap.size + 1;omega) _).far_ (p:=⟨w.heap.size + 1,1,none⟩) (by show b ≠ w.heap.size + 1;omega) _).far_ (p:=⟨w.heap.size + 1,2,none⟩) (by show b ≠ w.heap.size + 1;omega) _
 rw [hW3]
 clear hW3 K3 m3 mf3 n0 n1 n2 nf0 nf1 nf2 kVz kBz zVz zBz
 have zV3:=kV3.lt
 obtain ⟨-,-,n2⟩:=zc3 kV3
 go_wp2_with fail
 refine bodyPost_ret (by simp [results,Tryz.results140,go_sem] <;> rfl) rfl ?_
 exact ⟨rfl,⟨⟨a0,c0,a1,c1,A3,d3,a3,c3,a4,c4,a5,c5,a6,c6,a7,c7⟩,HK3.out⟩,B3,HKT.out⟩
theorem end_rd (base B:Nat) (L:Lay) (s:Swp) (j:Jb) (w:World) (h:WkAt w base B L s) (f2:s.wr.length ≤ 1000) (f3:s.rd.length ≤ 1000) (hj:j.wr = false) {i:Nat} {v:Wr} (hx:s.rd[i]? = some v) (h1:s.rd.findIdx? (fun v => decide (v.1 = j.slot)) = some i) :
  Calls Tryz.prog 140 #[.pointer (some ⟨B,0,none⟩),jbV j] w fun e w' => e = .returned (.tuple #[.int .i64 v.2.2,.int .i64 0])∧(∃ L',WkAt w' base B L' { s with rd:=s.rd.eraseIdx i })∧Below base w w'∧KeepT w w':=by
 obtain ⟨a0,c0,a1,c1,a2,c2,a3,c3,a4,c4,a5,c5,a6,c6,a7,c7⟩:=L
 obtain ⟨jw,js_,jf,⟨e0,e1,e2,e3,e4,e5,e6,e7⟩⟩:=j
 dsimp only at hj h1
 subst hj
 show Calls _ _ #[_,.agg (zkj false js_ jf e0 e1 e2 e3 e4 e5 e6 e7).toArray] _ _
 have hlow:=h.low
 have hbw:base ≤ w.heap.size:=by have:=h.lt;omega
 obtain ⟨X,hX⟩:∃ X,w.alloc (.cells (zkj false js_ jf e0 e1 e2 e3 e4 e5 e6 e7).toArray 115) = X:=⟨_,rfl⟩
 have BX:Below w.heap.size w X:=by rw [← hX];exact zbl
 have kJ:=za hX
 have K:=h.ext BX
 have HK:=Lib.hid K
 have kB:Blk X B 87 (zkx s a0 c0 a1 c1 a2 c2 a3 c3 a4 c4 a5 c5 a6 c6 a7 c7).toArray:=K.blk
 have hi:i < s.rd.length:=(List.getElem?_eq_some_iff.1 hx).1
 have i1:(i:Int) < s.rd.length:=by omega
 have zJ0:=kJ.lt
 obtain ⟨qj0,qj1,-⟩:=zc11 kJ
 have hC:=ixR_any a3 c3 s.rd w.heap.size js_ X K.own.o3.sr f3 qj1 zJ0
 rw [h1] at hC
 have HC:=Lib.hid hC
 have HX:=Lib.hid hx
 have hbX:base ≤ X.heap.size:=Nat.le_trans hbw BX.size
 have zB:=kB.lt
 obtain ⟨-,-,-,-,u4,-⟩:=zc11 kB
 have hi0:decide ((i:Int) < 0) = false:=decide_eq_false (by omega)
 clear h h1 hC K hx
 go_enter Tryz.func140,Tryz.ntmps140
 go_wp2_with fail
 (try rw [hX])
 clear hX qj0 qj1 u4
 refine HC.out.mono ?_
 rintro e1_ w1 ⟨rfl,hb1⟩
 have K1:=HK.out.ext hb1
 have HK1:=Lib.hid K1
 have kB1:Blk w1 B 87 (zkx s a0 c0 a1 c1 a2 c2 a3 c3 a4 c4 a5 c5 a6 c6 a7 c7).toArray:=K1.blk
 have zB1:=kB1.lt
 obtain ⟨g,cur,rfl,hg,hG,hgc,_⟩:=rdE_put K1.own.o3 HX.out
 have zG:=hG.lt
 have u4:=zc kB1 4
 have hb1s:base ≤ w1.heap.size:=Nat.le_trans hbX hb1.size
 have hO3:OwnR rdE w1 base (.slice (some ⟨g,0,none⟩) s.rd.length c3) s.rd:=K1.own.o3.own.resolve_left (fun e => by rw [e] at hi;simp at hi)
 have HDL:=Lib.hid (DelR_any g c3 base s.rd i w1 hO3 hi f3)
 have hc0:c3 ≠ 0:=by have:s.rd.length ≤ c3:=K1.own.o3.cr.2;omega
 clear K1 hO3
 unfold idxI
 go_wp2_with fail
 refine HDL.out.mono ?_
 rintro e2_ w2 ⟨rfl,hO2,hg2,hs2⟩
 have hk2:=KeptE.of_grown (c:=c3) hg2 hc0
 have B2:Below base w1 w2:=(Below.refl base w1).grown hg2 hb1s (fun r er => by cases er;exact hg)
 have kB2:=hk2.blk kB1 (HK1.out.own.o3.notT HK1.out.blk (by decide))
 have zB2:=kB2.lt
 have hel:(s.rd.eraseIdx i).length = s.rd.length - 1:=by rw [List.length_eraseIdx];simp [hi]
 have hO4:OwnE rdE w2 base (some ⟨g,0,none⟩) c3 (s.rd.eraseIdx i):=by
  have:OwnR rdE w2 base (.slice (some ⟨g,0,none⟩) (s.rd.eraseIdx i).length c3) (s.rd.eraseIdx i):=by rw [hel];exact hO2
  exact ⟨.inr this,.inr this⟩
 have HK3:=Lib.hid (HK1.out.reads B2 hk2 hO4)
 rw [hel] at HK3
 have HKT:Hid (KeepT w (w2.setCell ⟨B,4,none⟩ (.slice (some ⟨g,0,none⟩) (s.rd.length - 1) c3))):=by
  show KeepT _ _
  intro b t cs hb h1 h2
  have hbX:=hb.below_ BX hb.lt
  have x0:=hbX.below_ hb1 hbX.lt
  have x1:Blk w2 b t cs:=(hg2.block b x0.lt (by simpa using Blk.ne x0 hG h2)).trans x0
  exact x1.far_ (p:=⟨B,4,none⟩) (Blk.ne x1 kB2 h1) _
 clear hel u4 hgc
 have u4:=zc kB2 4
 have uf4:=kB2.frozen_ 4
 go_wp2_with fail
 refine bodyPost_ret (by simp [results,Tryz.results140,go_sem] <;> rfl) rfl ?_
 exact ⟨rfl,⟨⟨a0,c0,a1,c1,a2,c2,some ⟨g,0,none⟩,c3,a4,c4,a5,c5,a6,c6,a7,c7⟩,HK3.out⟩,(((BX.mono hbw).trans (hb1.mono hbX)).trans B2).setCell (p:=⟨B,4,none⟩) hlow _,HKT.out⟩
section
variable {w w1 : World} {base B : Nat} {L : Lay} {s : Swp}
theorem intE_at {A:Option Addr} {c n:Nat} {l:List Int} {x:Int} (h:OwnE intE w base A c l) (hx:l[n]? = some x):∃ g,A = some ⟨g,0,none⟩∧base ≤ g∧g < w.heap.size∧w.cell? ⟨g,n,none⟩ = some (.int .i64 x)∧OwnR intE w base (.slice A l.length c) l∧c ≠ 0:=by
 obtain ⟨hi,_⟩:=List.getElem?_eq_some_iff.1 hx;have hr:OwnR intE w base (.slice A l.length c) l:=h.own.resolve_left (fun e => by rw [e] at hi;simp at hi);obtain ⟨g,cur,rfl,_,hg,hB,h1,_⟩:=hr.blk (by omega);obtain ⟨b,off,y,e,_,hy,hc⟩:=hr.sr.2.at_ hi;injection e with e
 injection e with e1 e2
 subst e1 e2;rw [hx] at hy;injection hy with hy
 subst hy;have:=hc 0 _ rfl;rw [show 0 + n * intE.sz + 0 = n from by show 0 + n * 1 + 0 = _;omega] at this;exact ⟨g,rfl,hg,hB.lt,this,hr,by omega⟩
theorem OwnE.farBN {α:Type} {E:Elt Tryz.prog α} {A:Option Addr} {c:Nat} {l:List α}:∀ (vs:List Value) {w:World} {b o:Nat} {t:TypeId} {cs:Array Value},OwnE E w base A c l→Blk w b t cs→E.e ≠ t→OwnE E (setN w b o vs) base A c l
 | [],_,_,_,_,_,h,_,_ => h
 | v :: vs,_,_,o,_,_,h,hb,ht => OwnE.farBN vs (h.farB hb ht o v) (hb.set_ o v) ht
theorem WkAt.blkN {b o:Nat} {t:TypeId} {cs:Array Value} (h:WkAt w base B L s) (hb:Blk w b t cs) (ht:t ≠ 87) (vs:List Value):Blk (setN w b o vs) B 87 (swC L s).toArray:=by
 have hne:B ≠ b:=by
  intro e2;have h1:=h.blk;rw [e2] at h1;unfold Blk at h1 hb;rw [hb] at h1;injection h1 with h1
  injection h1 with _ h1
  exact ht h1
 exact ((grown_setN w b o vs).block B h.lt (by simpa using fun e => hne e)).trans h.blk
theorem WkAt.farJ (h:WkAt w base B L s) {b:Nat} {cs:Array Value} (hJ:Blk w b 115 cs) (vs:List Value) (o6:OwnE jbE (setN w b 0 vs) base L.a6 L.c6 s.dk.jobs):WkAt (setN w b 0 vs) base B L s:=
 have x:=h.own
 ⟨h.blkN hJ (by decide) vs,⟨x.o0.farBN vs hJ (by decide),x.o1.farBN vs hJ (by decide),x.o2.lift fun o => o.farBN vs hJ (by decide),x.o3.farBN vs hJ (by decide),x.o4.farBN vs hJ (by decide),x.o5.farBN vs hJ (by decide),o6,x.o7.farBN vs hJ (by decide),x.p0,x.p7⟩,h.low⟩
theorem WkAt.farD (h:WkAt w base B L s) {b:Nat} {cs:Array Value} (hJ:Blk w b 55 cs) (vs:List Value):WkAt (setN w b 0 vs) base B L s:=
 have x:=h.own
 ⟨h.blkN hJ (by decide) vs,⟨x.o0.farBN vs hJ (by decide),x.o1.farBN vs hJ (by decide),x.o2.lift fun o => o.farBN vs hJ (by decide),x.o3.farBN vs hJ (by decide),x.o4.farBN vs hJ (by decide),x.o5.farBN vs hJ (by decide),x.o6.farBN vs hJ (by decide),x.o7.farBN vs hJ (by decide),x.p0,x.p7⟩,h.low⟩
end
def PoF (P:Pol) (v:Value) (lo _hi:Nat) (w:World):Prop:=∃ A c,v = .tuple #[poV A c P,.int .i64 0]∧OwnE intE w lo A c P.free
theorem PoF.lasts (P:Pol):(Fk.has (PoF P)).lasts:=fun _ _ _ _ _ ⟨A,c,e,h⟩ hb => ⟨A,c,e,h.ext hb⟩
def StF (T:Sts) (z:List Value) (v:Value) (lo _hi:Nat) (w:World):Prop:=∃ A c A' c',v = .tuple (stV A c A' c' T :: z).toArray∧OwnE intE w lo A c T.refs∧OwnE boolE w lo A' c' T.busy
theorem StF.lasts (T:Sts) (z:List Value):(Fk.has (StF T z)).lasts:=fun _ _ _ _ _ ⟨A,c,A',c',e,h,h'⟩ hb => ⟨A,c,A',c',e,h.ext hb,h'.ext hb⟩
def EndW (s:Swp) (j:Jb) (wr' rd':List Wr) (pr:Int):Prop:=
 (j.wr = true→∃ v,remS s.wr j.slot = (wr',v,0)∧v.2.2 = pr∧rd' = s.rd)∧(j.wr = false→∃ (i:Nat) (v:Wr),s.rd[i]? = some v∧s.rd.findIdx? (fun v => decide (v.1 = j.slot)) = some i∧s.rd.eraseIdx i = rd'∧v.2.2 = pr∧wr' = s.wr)
theorem end_any (base B:Nat) (L:Lay) (s:Swp) (j:Jb) (w:World) (h:WkAt w base B L s) (f2:s.wr.length ≤ 1000) (f3:s.rd.length ≤ 1000) {wr' rd':List Wr} {pr:Int} (h1:EndW s j wr' rd' pr) :
  Calls Tryz.prog 140 #[.pointer (some ⟨B,0,none⟩),jbV j] w fun e w' => e = .returned (.tuple #[.int .i64 pr,.int .i64 0])∧(∃ L',WkAt w' base B L' { s with wr:=wr',rd:=rd' })∧Below base w w'∧KeepT w w':=by
 cases hj:j.wr with
 | true =>
  obtain ⟨v,h2,h3,h4⟩:=h1.1 hj
  subst h3 h4
  exact end_wr base B L s j w h f2 f3 hj h2
 | false =>
  obtain ⟨i,v,h2,h3,h4,h5,h6⟩:=h1.2 hj
  subst h4 h5 h6
  exact end_rd base B L s j w h f2 f3 hj h2 h3
theorem complete_work (base B:Nat) (L:Lay) (s:Swp) (n:Nat) (w:World) (h:WkAt w base B L s) (hf:Few s) {D:Dsk} {J:Jb} {P:Pol} {T1 T2:Sts} {wr' rd':List Wr} {pr dd:Int} {bb bu:Bool}
  (hx:s.desc[n]? = some dd) (h1:cmpD s.dk n = (D,J,0)) (h2:gvP s.po dd = (P,0)) (h3:EndW s J wr' rd' pr) (h4:setT s.sl J.slot = (T1,bb,0)) (hl1:T1.refs.length ≤ 40) (hl2:T1.busy.length ≤ 40) (h5:pr ≠ 0→unrT T1 J.slot = (T2,bu,0)) (h6:pr = 0→T2 = T1) :
  Calls Tryz.prog 79 #[.pointer (some ⟨B,0,none⟩),.int .i64 n] w fun e w' => e = .returned (.tuple #[.agg (.bool J.wr :: .int .i64 J.slot :: .int .i64 J.frame :: .int .i64 pr :: ctC J.data).toArray,.int .i64 0]) ∧
   (∃ L',WkAt w' base B L' ⟨s.cap,T2,wr',rd',s.desc.eraseIdx n,D,P⟩)∧Below base w w':=by
 obtain ⟨a0,c0,a1,c1,a2,c2,a3,c3,a4,c4,a5,c5,a6,c6,a7,c7⟩:=L
 have HF:=Lib.hid hf
 obtain ⟨f0,f1,f2,f3,f4,f5,f6,f7⟩:=hf
 have hlow:=h.low
 have hbw:base ≤ w.heap.size:=by have:=h.lt;omega
 have hBw:B < w.heap.size:=h.lt
 obtain ⟨jw,js_,jf,⟨e0,e1,e2,e3,e4,e5,e6,e7⟩⟩:=J
 dsimp only at h4 h5
 obtain ⟨X,hX⟩:∃ X,(w.alloc (.cells (zkn false 0 0 0 0 0 0 0 0 0 0 0).toArray 55)).alloc (.cells (zkj false 0 0 0 0 0 0 0 0 0 0).toArray 115) = X:=⟨_,rfl⟩
 have BX:Below w.heap.size w X:=by rw [← hX];exact zbl
 have kD:=za1 hX
 have kJ:=za2 hX
 have hXs:w.heap.size + 1 < X.heap.size:=kJ.lt
 have HK:=Lib.hid (h.ext BX)
 have kB:Blk X B 87 (zkx s a0 c0 a1 c1 a2 c2 a3 c3 a4 c4 a5 c5 a6 c6 a7 c7).toArray:=HK.out.blk
 have hC:=dComplete_any a5 a6 c5 c6 s.dk n X HK.out.own.o5.sr HK.out.own.o6.sr f5 f6
 rw [h1] at hC
 have HC:=Lib.hid hC
 have H2:=Lib.hid h2
 have H3:=Lib.hid h3
 have H4:=Lib.hid h4
 have H5:=Lib.hid h5
 have H6:=Lib.hid h6
 have HX:=Lib.hid hx
 have hn:n < s.desc.length:=(List.getElem?_eq_some_iff.1 hx).1
 have n1:(n:Int) < s.desc.length:=by omega
 have hbX:base ≤ X.heap.size:=Nat.le_trans hbw BX.size
 clear h hC h1 h2 h3 h4 h5 h6 hx
 have zB:=kB.lt
 have zJ:=kJ.lt
 have zD:=kD.lt
 obtain ⟨-,-,-,-,-,-,q6,q7,q8,-⟩:=zc11 kB
 go_enter Tryz.func79,Tryz.ntmps79
 go_wp2_with fail
 (try rw [hX])
 clear hX q6 q7 q8
 refine HC.out.mono ?_
 rintro ee1 w1 ⟨A6,d6,A7,d7,rfl,oC,oJ,hb1⟩
 unfold dkV jbV jbC ctC
 dsimp only at oC oJ
 dsimp only
 have kB1:=kB.below_ hb1 zB
 have kJ1:=kJ.below_ hb1 zJ
 have kD1:=kD.below_ hb1 zD
 have zB1:=kB1.lt
 have zJ1:=kJ1.lt
 obtain ⟨-,-,-,-,-,-,q6,q7,q8,-⟩:=zc11 kB1
 obtain ⟨-,-,-,-,-,-,qf6,qf7,qf8,-⟩:=zf kB1
 obtain ⟨y0,y1,y2,y3,y4,y5,y6,y7,y8,y9,y10⟩:=zc11 kJ1
 obtain ⟨yf0,yf1,yf2,yf3,yf4,yf5,yf6,yf7,yf8,yf9,yf10,-⟩:=zf kJ1
 go_upto_region 3 with fail
 obtain ⟨u2,hu2⟩:∃ u2,((w1.setCell ⟨B,6,none⟩ (.slice A6 D.cells.length d6)).setCell ⟨B,7,none⟩ (.slice A7 D.jobs.length d7)).setCell ⟨B,8,none⟩ (.int .i64 D.room) = u2:=⟨_,rfl⟩
 rw [hu2]
 have K2:WkAt u2 base B ⟨a0,c0,a1,c1,a2,c2,a3,c3,a4,c4,A6,d6,A7,d7,a7,c7⟩ { s with dk:=D }:=by rw [← hu2];exact HK.out.disk hb1 oC oJ
 have kJ2:Blk u2 (w.heap.size + 1) 115 (zkj false 0 0 0 0 0 0 0 0 0 0).toArray:=by rw [← hu2];exact ((kJ1.far_ (p:=⟨B,6,none⟩) (by show _ ≠ B;omega) _).far_ (p:=⟨B,7,none⟩) (by show _ ≠ B;omega) _).far_ (p:=⟨B,8,none⟩) (by show _ ≠ B;omega) _
 have kD2:Blk u2 w.heap.size 55 (zkn false 0 0 0 0 0 0 0 0 0 0 0).toArray:=by rw [← hu2];exact ((kD1.far_ (p:=⟨B,6,none⟩) (by show _ ≠ B;omega) _).far_ (p:=⟨B,7,none⟩) (by show _ ≠ B;omega) _).far_ (p:=⟨B,8,none⟩) (by show _ ≠ B;omega) _
 have oJ2:OwnE jbE u2 X.heap.size A7 d7 D.jobs:=by rw [← hu2];exact ((oJ.far (p:=⟨B,6,none⟩) (by show B < _;omega) _).far (p:=⟨B,7,none⟩) (by show B < _;omega) _).far (p:=⟨B,8,none⟩) (by show B < _;omega) _
 have Bu2:Below base w u2:=by rw [← hu2];exact ((((BX.mono hbw).trans (hb1.mono hbX)).setCell (p:=⟨B,6,none⟩) hlow _).setCell (p:=⟨B,7,none⟩) hlow _).setCell (p:=⟨B,8,none⟩) hlow _
 clear hu2
 obtain ⟨W2,hW2⟩:∃ V,setN u2 (w.heap.size + 1) 0 (zkj jw js_ jf e0 e1 e2 e3 e4 e5 e6 e7) = V:=⟨_,rfl⟩
 have hW2n:=zs11 hW2
 have K3:WkAt W2 base B ⟨a0,c0,a1,c1,a2,c2,a3,c3,a4,c4,A6,d6,A7,d7,a7,c7⟩ { s with dk:=D }:=by rw [← hW2];exact K2.farJ kJ2 _ ((oJ2.farN hXs _).base_ hbX)
 have kJ3:=zsw hW2 kJ2
 have kD3:Blk W2 w.heap.size 55 (zkn false 0 0 0 0 0 0 0 0 0 0 0).toArray:=by rw [← hW2];exact kD2.kept (grown_setN _ _ _ _) (by simp)
 have B2:=zbw hW2 Bu2 (by omega)
 have HK3:=Lib.hid K3
 have kB2:Blk W2 B 87 #[.int .i64 s.cap,.slice a0 s.sl.refs.length c0,.slice a1 s.sl.busy.length c1,.slice a2 s.wr.length c2,.slice a3 s.rd.length c3,.slice a4 s.desc.length c4,.slice A6 D.cells.length d6,.slice A7 D.jobs.length d7,.int .i64 D.room,.int .i64 s.po.size,.slice a7 s.po.free.length c7]:=K3.blk
 rw [hW2n]
 clear hW2n hW2 K2 kJ2 kD2 oJ2 Bu2 K3 q6 q7 q8 qf6 qf7 qf8 y0 yf0 y1 yf1 y2 yf2 y3 yf3 y4 yf4 y5 yf5 y6 yf6 y7 yf7 y8 yf8 y9 yf9 y10 yf10 kB1 kJ1 kD1 zB1 zJ1 oC oJ
 have hb2s:base ≤ W2.heap.size:=by have:=B2.size;omega
 have hW2s:w.heap.size + 1 < W2.heap.size:=kJ3.lt
 obtain ⟨g,rfl,hg,gl,gc,_,hc0⟩:=intE_at HK3.out.own.o4 HX.out
 have hD:∀ V,Below W2.heap.size W2 V→_:=fun V hV => pGive_any a7 c7 s.po dd V (HK3.out.own.o7.sr.ext hV) HF.out.f7
 rw [H2.out] at hD
 have HD:=Lib.hid hD
 clear hD
 go_wp2_with fail
 refine zrg [0,0,0,0,0,1,0,0,0,0,1,0,0,1,2,0,0,0,0,0,0,3,0] [[],[],[],[],[],[],[],[],[],[],[],[],[],[],[],[14],[15],[15],[],[],[],[],[17]] [.is ?_,.is ?_,.is ?_,.is ?_,.is ?_,.kn ?_,.is ?_,.is ?_,.is ?_,.is ?_,.kn ?_,.is ?_,.is ?_,.kn ?_,.has (PoF P),.fn [14] fst_,.fn [15] (fun l => tupAt (fst_ l) 0),.fn [15] (fun l => tupAt (fst_ l) 1),.is ?_,.is ?_,.is ?_,.late,.fn [17] fst_] [21] (lts_is (lts_is (lts_is (lts_is (lts_is (lts_kn (lts_is (lts_is (lts_is (lts_is (lts_kn (lts_is (lts_is (lts_kn (lts_has (PoF.lasts P) (lts_fn (lts_fn (lts_fn (lts_is (lts_is (lts_is (lts_late (lts_fn lts_nil))))))))))))))))))))))) (fun W0 hb0 hz0 => ?_)
 rotate_left 17
 have kW:=kB2.below_ hb0 kB2.lt
 have zW:=kW.lt
 have pg:=cell_keep hb0 gc gl
 have zG0:g < W0.heap.size:=Nat.lt_of_lt_of_le gl hb0.size
 have p5:=zc kW 5
 have p9:=zc kW 9
 have p10:=zc kW 10
 refine zqp ?_
 refine zqp ?_
 refine zqp ?_
 refine zqp ?_
 refine zqp ?_
 refine zqT (fun w hbw hd => ?_) ?_
 ·have r9:=cell_keep hbw p9 zW
  have r10:=cell_keep hbw p10 zW
  exact zgs
 refine zqp ?_
 refine zqp ?_
 refine zqp ?_
 refine zqp ?_
 refine zqT (fun w hbw hd => ?_) ?_
 ·have r5:=cell_keep hbw p5 zW
  exact zgs
 refine zqp ?_
 refine zqp ?_
 refine zqT (fun w hbw hd => ?_) ?_
 ·have r1:=cell_keep hbw pg zG0
  exact zgs
 refine zqh (fun w hbw hd K Q' hK => ?_) (fun vgi14 => ?_)
 ·clear hd
  go_simp
  refine (HD.out _ (hb0.trans (hbw.mono hb0.size))).mono ?_
  rintro e y ⟨A8,d8,rfl,ho,hy⟩
  go_wp2_with fail
  exact hK.out (.tuple #[poV A8 d8 P,.int .i64 0]) _ _ zpt zbm ⟨A8,d8,rfl,ho⟩
 refine zqf (vgi14) ?_
 refine zqF (tupAt (vgi14) 0) (fun w0 hd w => ?_) ?_
 ·obtain ⟨_,_,A8,d8,rfl,_⟩:∃ lo hi,PoF P vgi14 lo hi w0:=hd 14 _ _ (by kernel_rfl) rfl rfl
  exact zsr
 refine zqF (tupAt (vgi14) 1) (fun w0 hd w => ?_) ?_
 ·obtain ⟨_,_,A8,d8,rfl,_⟩:∃ lo hi,PoF P vgi14 lo hi w0:=hd 14 _ _ (by kernel_rfl) rfl rfl
  exact zsr
 refine zqp ?_
 refine zqp ?_
 refine zqp ?_
 refine zql ?_
 refine zqf (tupAt (vgi14) 1) ?_
 refine chn_end (fun wz lo hi hbz hd hR => ?_)
 obtain ⟨A8,d8,rfl,oP⟩:PoF P vgi14 (lo 14) (hi 14) wz:=hd 14 _ _ rfl rfl
 have r9:=(hR.2 14 _ rfl).1
 have hsz:=hb0.size
 have BZ:Below W2.heap.size W2 wz:=hb0.trans (hbz.mono hsz)
 have kBz:=kB2.below_ BZ kB2.lt
 have zBz:=kBz.lt
 clear hd hR p5 p9 p10 pg
 obtain ⟨-,-,-,-,-,-,-,-,-,m9,m10⟩:=zc11 kBz
 obtain ⟨-,-,-,-,-,-,-,-,-,mf9,mf10,-⟩:=zf kBz
 unfold poV
 simp only [tupAt,List.getD_cons_succ,List.getD_cons_zero,Array.getD_eq_getD_getElem?,zy5,zy6,zy7,Option.getD_some]
 refine late_one (by simp only [zy5,zy6,zy7];rfl) (fun K Q' hK => ?_)
 go_simp
 refine hK.out _ ?_
 clear hK K Q'
 obtain ⟨W3,hW3⟩:∃ V,(wz.setCell ⟨B,9,none⟩ (.int .i64 P.size)).setCell ⟨B,10,none⟩ (.slice A8 P.free.length d8) = V:=⟨_,rfl⟩
 have K4:WkAt W3 base B ⟨a0,c0,a1,c1,a2,c2,a3,c3,some ⟨g,0,none⟩,c4,A6,d6,A7,d7,A8,d8⟩ { s with dk:=D,po:=P }:=by rw [← hW3];exact HK3.out.pool BZ (oP.base_ (by omega))
 have kJ4:Blk W3 (w.heap.size + 1) 115 (zkj jw js_ jf e0 e1 e2 e3 e4 e5 e6 e7).toArray:=by rw [← hW3];exact ((kJ3.below_ BZ kJ3.lt).far_ (p:=⟨B,9,none⟩) (by show _ ≠ B;omega) _).far_ (p:=⟨B,10,none⟩) (by show _ ≠ B;omega) _
 have kD4:Blk W3 w.heap.size 55 (zkn false 0 0 0 0 0 0 0 0 0 0 0).toArray:=by rw [← hW3];exact ((kD3.below_ BZ kD3.lt).far_ (p:=⟨B,9,none⟩) (by show _ ≠ B;omega) _).far_ (p:=⟨B,10,none⟩) (by show _ ≠ B;omega) _
 have B3:Below base w W3:=by rw [← hW3];exact ((B2.trans (BZ.mono hb2s)).setCell (p:=⟨B,9,none⟩) hlow _).setCell (p:=⟨B,10,none⟩) hlow _
 have HK4:=Lib.hid K4
 have kB3:Blk W3 B 87 #[.int .i64 s.cap,.slice a0 s.sl.refs.length c0,.slice a1 s.sl.busy.length c1,.slice a2 s.wr.length c2,.slice a3 s.rd.length c3,.slice (some ⟨g,0,none⟩) s.desc.length c4,.slice A6 D.cells.length d6,.slice A7 D.jobs.length d7,.int .i64 D.room,.int .i64 P.size,.slice A8 P.free.length d8]:=K4.blk
 rw [hW3]
 clear hW3 K4 m9 m10 mf9 mf10 kBz zBz r9 oP
 have zB3:=kB3.lt
 have hb3s:base ≤ W3.heap.size:=by have:=B3.size;omega
 obtain ⟨g',eg,_,gl3,_,hO4,_⟩:=intE_at HK4.out.own.o4 HX.out
 obtain rfl:g = g':=by injection eg with eg;injection eg
 have HDL:=Lib.hid (DelI_any g c4 base s.desc n W3 hO4 hn f4)
 obtain ⟨-,-,-,-,-,u5,-⟩:=zc11 kB3
 clear eg hO4 gc gl
 go_wp2_with fail
 refine HDL.out.mono ?_
 rintro ee4 w4 ⟨rfl,hO,hgr,hs4⟩
 have hk4:=KeptE.of_grown (c:=c4) hgr hc0
 have Bg:Below base W3 w4:=(Below.refl base W3).grown hgr hb3s (fun r er => by cases er;exact hg)
 have kB4:=hk4.blk kB3 (HK4.out.own.o4.notT HK4.out.blk (by decide))
 have kJ5:=hk4.blk kJ4 (HK4.out.own.o4.notT kJ4 (by decide))
 have kD5:=hk4.blk kD4 (HK4.out.own.o4.notT kD4 (by decide))
 have zB4:=kB4.lt
 have hel:(s.desc.eraseIdx n).length = s.desc.length - 1:=by rw [List.length_eraseIdx];simp [hn]
 have hO5:OwnE intE w4 base (some ⟨g,0,none⟩) c4 (s.desc.eraseIdx n):=by
  have:OwnR intE w4 base (.slice (some ⟨g,0,none⟩) (s.desc.eraseIdx n).length c4) (s.desc.eraseIdx n):=by rw [hel];exact hO
  exact ⟨.inr this,.inr this⟩
 have K5:=HK4.out.desc Bg hk4 (.inl ⟨rfl,hc0⟩) hO5
 rw [hel] at K5
 clear hel u5 hO
 have u5:=zc kB4 5
 have uf5:=kB4.frozen_ 5
 go_upto_region 9 with fail
 obtain ⟨W5,hW5⟩:∃ V,w4.setCell ⟨B,5,none⟩ (.slice (some ⟨g,0,none⟩) (s.desc.length - 1) c4) = V:=⟨_,rfl⟩
 rw [hW5] at K5
 have kJ6:Blk W5 (w.heap.size + 1) 115 (zkj jw js_ jf e0 e1 e2 e3 e4 e5 e6 e7).toArray:=by rw [← hW5];exact kJ5.far_ (p:=⟨B,5,none⟩) (by show _ ≠ B;omega) _
 have kD6:Blk W5 w.heap.size 55 (zkn false 0 0 0 0 0 0 0 0 0 0 0).toArray:=by rw [← hW5];exact kD5.far_ (p:=⟨B,5,none⟩) (by show _ ≠ B;omega) _
 have B5:Below base w W5:=by rw [← hW5];exact (B3.trans Bg).setCell (p:=⟨B,5,none⟩) hlow _
 rw [hW5]
 clear hW5 u5 uf5 kB4 kJ5 kD5 zB4 zB3 kB3 hO5
 have hEN:=Lib.hid (end_any base B _ _ ⟨jw,js_,jf,⟨e0,e1,e2,e3,e4,e5,e6,e7⟩⟩ W5 K5 (wr':=wr') (rd':=rd') (pr:=pr) f2 f3 H3.out)
 have zJ6:=kJ6.lt
 obtain ⟨y0,y1,y2,y3,y4,y5,y6,y7,y8,y9,y10⟩:=zc11 kJ6
 clear K5
 go_wp2_with fail
 refine hEN.out.mono ?_
 rintro ee6 w6 ⟨rfl,⟨⟨b0,k0,b1,k1,b2,k2,b3,k3,b4,k4,b5,k5,b6,k6,b7,k7⟩,K6⟩,Bn6,hkt⟩
 have hb5s:base ≤ W5.heap.size:=by have:=B5.size;omega
 have B6:Below base w w6:=B5.trans Bn6
 have kJ7:=hkt _ _ _ kJ6 (by decide) (by decide)
 have kD7:=hkt _ _ _ kD6 (by decide) (by decide)
 have HK6:=Lib.hid K6
 have kB6:Blk w6 B 87 #[.int .i64 s.cap,.slice b0 s.sl.refs.length k0,.slice b1 s.sl.busy.length k1,.slice b2 wr'.length k2,.slice b3 rd'.length k3,.slice b4 (s.desc.eraseIdx n).length k4,.slice b5 D.cells.length k5,.slice b6 D.jobs.length k6,.int .i64 D.room,.int .i64 P.size,.slice b7 P.free.length k7]:=K6.blk
 clear y0 y1 y2 y3 y4 y5 y6 y7 y8 y9 y10 zJ6 K6 kJ6 kD6 Bn6 hkt
 have hT1:∀ V,Below w6.heap.size w6 V→_:=fun V hV => sSettle_any b0 b1 k0 k1 s.sl js_ V (HK6.out.own.o0.sr.ext hV) (HK6.out.own.o1.sr.ext hV) f0 f1
 rw [H4.out] at hT1
 have HT1:=Lib.hid hT1
 clear hT1
 go_wp2_with fail
 refine zrg [0,0,0,0,0,1,0,1,2,0,0,0,0,0,0,0,3,0] [[],[],[],[],[],[],[],[],[],[8],[9],[9],[9],[],[],[],[],[12]] [.is ?_,.is ?_,.is ?_,.is ?_,.is ?_,.kn ?_,.is ?_,.kn ?_,.has (StF T1 [.bool bb,.int .i64 0]),.fn [8] fst_,.fn [9] (fun l => tupAt (fst_ l) 0),.fn [9] (fun l => tupAt (fst_ l) 1),.fn [9] (fun l => tupAt (fst_ l) 2),.is ?_,.is ?_,.is ?_,.late,.fn [12] fst_] [16] (lts_is (lts_is (lts_is (lts_is (lts_is (lts_kn (lts_is (lts_kn (lts_has (StF.lasts T1 [.bool bb,.int .i64 0]) (lts_fn (lts_fn (lts_fn (lts_fn (lts_is (lts_is (lts_is (lts_late (lts_fn lts_nil)))))))))))))))))) (fun W0 hb0 hz0 => ?_)
 rotate_left 11
 have kW:=kB6.below_ hb0 kB6.lt
 have kJ0:=kJ7.below_ hb0 kJ7.lt
 have zW:=kW.lt
 have zJ:=kJ0.lt
 obtain ⟨-,p1,p2,-⟩:=zc11 kW
 have pj:=zc kJ0 1
 refine zqp ?_
 refine zqp ?_
 refine zqp ?_
 refine zqp ?_
 refine zqp ?_
 refine zqT (fun w hbw hd => ?_) ?_
 ·have r1:=cell_keep hbw p1 zW
  have r2:=cell_keep hbw p2 zW
  exact zgs
 refine zqp ?_
 refine zqT (fun w hbw hd => ?_) ?_
 ·have r3:=cell_keep hbw pj zJ
  exact zgs
 refine zqh (fun w hbw hd K Q' hK => ?_) (fun vst8 => ?_)
 ·clear hd
  go_simp
  refine (HT1.out _ (hb0.trans (hbw.mono hb0.size))).mono ?_
  rintro e y ⟨A1,d1,A2_,d2,rfl,oI,oB,hy⟩
  go_wp2_with fail
  exact hK.out (.tuple #[stV A1 d1 A2_ d2 T1,.bool bb,.int .i64 0]) _ _ zpt zbm ⟨A1,d1,A2_,d2,rfl,oI,oB⟩
 refine zqf (vst8) ?_
 refine zqF (tupAt (vst8) 0) (fun w0 hd w => ?_) ?_
 ·obtain ⟨_,_,A1,d1,A2_,d2,rfl,_⟩:∃ lo hi,StF T1 [.bool bb,.int .i64 0] vst8 lo hi w0:=hd 8 _ _ (by kernel_rfl) rfl rfl
  exact zsr
 refine zqF (tupAt (vst8) 1) (fun w0 hd w => ?_) ?_
 ·obtain ⟨_,_,A1,d1,A2_,d2,rfl,_⟩:∃ lo hi,StF T1 [.bool bb,.int .i64 0] vst8 lo hi w0:=hd 8 _ _ (by kernel_rfl) rfl rfl
  exact zsr
 refine zqF (tupAt (vst8) 2) (fun w0 hd w => ?_) ?_
 ·obtain ⟨_,_,A1,d1,A2_,d2,rfl,_⟩:∃ lo hi,StF T1 [.bool bb,.int .i64 0] vst8 lo hi w0:=hd 8 _ _ (by kernel_rfl) rfl rfl
  exact zsr
 refine zqp ?_
 refine zqp ?_
 refine zqp ?_
 refine zql ?_
 refine zqf (tupAt (vst8) 2) ?_
 refine chn_end (fun wz lo hi hbz hd hR => ?_)
 obtain ⟨A1,d1,A2_,d2,rfl,oI,oB⟩:StF T1 [.bool bb,.int .i64 0] vst8 (lo 8) (hi 8) wz:=hd 8 _ _ rfl rfl
 have r9:=(hR.2 8 _ rfl).1
 have hsz:=hb0.size
 have BZ:Below w6.heap.size w6 wz:=hb0.trans (hbz.mono hsz)
 have kBz:=kB6.below_ BZ kB6.lt
 have zBz:=kBz.lt
 clear hd hR p1 p2 pj
 obtain ⟨-,m1,m2,-⟩:=zc11 kBz
 obtain ⟨-,mf1,mf2,-⟩:=zf kBz
 unfold stV
 simp only [tupAt,List.getD_cons_succ,List.getD_cons_zero,Array.getD_eq_getD_getElem?,zy5,zy6,zy7,Option.getD_some]
 refine late_one (by simp only [zy5,zy6,zy7];rfl) (fun K Q' hK => ?_)
 go_simp
 refine hK.out _ ?_
 clear hK K Q'
 obtain ⟨W7,hW7⟩:∃ V,(wz.setCell ⟨B,1,none⟩ (.slice A1 T1.refs.length d1)).setCell ⟨B,2,none⟩ (.slice A2_ T1.busy.length d2) = V:=⟨_,rfl⟩
 have K7:WkAt W7 base B ⟨A1,d1,A2_,d2,b2,k2,b3,k3,b4,k4,b5,k5,b6,k6,b7,k7⟩ { s with dk:=D,po:=P,desc:=s.desc.eraseIdx n,wr:=wr',rd:=rd',sl:=T1 }:=by rw [← hW7];exact HK6.out.slots BZ (oI.base_ (by omega)) (oB.base_ (by omega))
 have kJ7:Blk W7 (w.heap.size + 1) 115 (zkj jw js_ jf e0 e1 e2 e3 e4 e5 e6 e7).toArray:=by rw [← hW7];exact ((kJ7.below_ BZ kJ7.lt).far_ (p:=⟨B,1,none⟩) (by show _ ≠ B;omega) _).far_ (p:=⟨B,2,none⟩) (by show _ ≠ B;omega) _
 have kD7:Blk W7 w.heap.size 55 (zkn false 0 0 0 0 0 0 0 0 0 0 0).toArray:=by rw [← hW7];exact ((kD7.below_ BZ kD7.lt).far_ (p:=⟨B,1,none⟩) (by show _ ≠ B;omega) _).far_ (p:=⟨B,2,none⟩) (by show _ ≠ B;omega) _
 have B7:Below base w W7:=by rw [← hW7];exact ((B6.trans (BZ.mono (by have:=B6.size;omega))).setCell (p:=⟨B,1,none⟩) hlow _).setCell (p:=⟨B,2,none⟩) hlow _
 have HK7:=Lib.hid K7
 have kB7:=K7.blk
 rw [hW7]
 clear hW7 K7 m1 m2 mf1 mf2 kBz zBz r9 oI oB
 by_cases p0:pr = 0
 ·have p0b:(pr != 0) = false:=by simpa using p0
  obtain rfl:=H6.out p0
  clear p0
  have zKJ:=kJ7.lt
  have zKD:=kD7.lt
  obtain ⟨a0,a1,a2,a3,a4,a5,a6,a7,a8,a9,a10⟩:=zc11 kJ7
  obtain ⟨dz0,dz1,dz2,dz3,dz4,dz5,dz6,dz7,dz8,dz9,dz10,dz11⟩:=zc12 kD7
  obtain ⟨dzf0,dzf1,dzf2,dzf3,dzf4,dzf5,dzf6,dzf7,dzf8,dzf9,dzf10,dzf11⟩:=zf kD7
  go_wp2_with fail
  obtain ⟨Z,hZ⟩:∃ Z,setN W7 w.heap.size 0 (zkn jw js_ jf pr e0 e1 e2 e3 e4 e5 e6 e7) = Z:=⟨_,rfl⟩
  have hZn:=zs12 hZ
  have kZ:=zsw hZ kD7
  have KZ:WkAt Z base B ⟨A1,d1,A2_,d2,b2,k2,b3,k3,b4,k4,b5,k5,b6,k6,b7,k7⟩ ⟨s.cap,T2,wr',rd',s.desc.eraseIdx n,D,P⟩:=by rw [← hZ];exact HK7.out.farD kD7 _
  have BZZ:=zbw hZ B7 hbw
  have HKZ:=Lib.hid KZ
  rw [hZn]
  clear hZn hZ KZ dz0 dzf0 dz1 dzf1 dz2 dzf2 dz3 dzf3 dz4 dzf4 dz5 dzf5 dz6 dzf6 dz7 dzf7 dz8 dzf8 dz9 dzf9 dz10 dzf10 dz11 dzf11
  refine bodyPost_ret (by simp [results,Tryz.results79,go_sem,zc12 kZ] <;> rfl) rfl ?_
  exact ⟨rfl,⟨⟨A1,d1,A2_,d2,b2,k2,b3,k3,b4,k4,b5,k5,b6,k6,b7,k7⟩,HKZ.out⟩,BZZ⟩
 ·have p0b:(pr != 0) = true:=by simpa using p0
  have hU:=H5.out p0
  clear p0
  have hT2:∀ V,Below W7.heap.size W7 V→_:=fun V hV => sUnref_any A1 A2_ d1 d2 T1 js_ V (HK7.out.own.o0.sr.ext hV) (HK7.out.own.o1.sr.ext hV) hl1 hl2
  rw [hU] at hT2
  have HT2:=Lib.hid hT2
  clear hT2 hU
  have kB8:Blk W7 B 87 #[.int .i64 s.cap,.slice A1 T1.refs.length d1,.slice A2_ T1.busy.length d2,.slice b2 wr'.length k2,.slice b3 rd'.length k3,.slice b4 (s.desc.eraseIdx n).length k4,.slice b5 D.cells.length k5,.slice b6 D.jobs.length k6,.int .i64 D.room,.int .i64 P.size,.slice b7 P.free.length k7]:=HK7.out.blk
  go_wp2_with fail
  refine zrg [0,0,0,0,0,1,0,1,2,0,0,0,0,0,0,0,3,0] [[],[],[],[],[],[],[],[],[],[8],[9],[9],[9],[],[],[],[],[12]] [.is ?_,.is ?_,.is ?_,.is ?_,.is ?_,.kn ?_,.is ?_,.kn ?_,.has (StF T2 [.bool bu,.int .i64 0]),.fn [8] fst_,.fn [9] (fun l => tupAt (fst_ l) 0),.fn [9] (fun l => tupAt (fst_ l) 1),.fn [9] (fun l => tupAt (fst_ l) 2),.is ?_,.is ?_,.is ?_,.late,.fn [12] fst_] [16] (lts_is (lts_is (lts_is (lts_is (lts_is (lts_kn (lts_is (lts_kn (lts_has (StF.lasts T2 [.bool bu,.int .i64 0]) (lts_fn (lts_fn (lts_fn (lts_fn (lts_is (lts_is (lts_is (lts_late (lts_fn lts_nil)))))))))))))))))) (fun W0 hb0 hz0 => ?_)
  rotate_left 11
  have kW:=kB8.below_ hb0 kB8.lt
  have kJ0:=kJ7.below_ hb0 kJ7.lt
  have zW:=kW.lt
  have zJ:=kJ0.lt
  obtain ⟨-,p1,p2,-⟩:=zc11 kW
  obtain ⟨-,pj,-⟩:=zc11 kJ0
  refine zqp ?_
  refine zqp ?_
  refine zqp ?_
  refine zqp ?_
  refine zqp ?_
  refine zqT (fun w hbw hd => ?_) ?_
  ·have r1:=cell_keep hbw p1 zW
   have r2:=cell_keep hbw p2 zW
   exact zgs
  refine zqp ?_
  refine zqT (fun w hbw hd => ?_) ?_
  ·have r3:=cell_keep hbw pj zJ
   exact zgs
  refine zqh (fun w hbw hd K Q' hK => ?_) (fun vsu8 => ?_)
  ·clear hd
   go_simp
   refine (HT2.out _ (hb0.trans (hbw.mono hb0.size))).mono ?_
   rintro e y ⟨C1,x1,C2,x2,rfl,oI,oB,hy⟩
   go_wp2_with fail
   exact hK.out (.tuple #[stV C1 x1 C2 x2 T2,.bool bu,.int .i64 0]) _ _ zpt zbm ⟨C1,x1,C2,x2,rfl,oI,oB⟩
  refine zqf (vsu8) ?_
  refine zqF (tupAt (vsu8) 0) (fun w0 hd w => ?_) ?_
  ·obtain ⟨_,_,C1,x1,C2,x2,rfl,_⟩:∃ lo hi,StF T2 [.bool bu,.int .i64 0] vsu8 lo hi w0:=hd 8 _ _ (by kernel_rfl) rfl rfl
   exact zsr
  refine zqF (tupAt (vsu8) 1) (fun w0 hd w => ?_) ?_
  ·obtain ⟨_,_,C1,x1,C2,x2,rfl,_⟩:∃ lo hi,StF T2 [.bool bu,.int .i64 0] vsu8 lo hi w0:=hd 8 _ _ (by kernel_rfl) rfl rfl
   exact zsr
  refine zqF (tupAt (vsu8) 2) (fun w0 hd w => ?_) ?_
  ·obtain ⟨_,_,C1,x1,C2,x2,rfl,_⟩:∃ lo hi,StF T2 [.bool bu,.int .i64 0] vsu8 lo hi w0:=hd 8 _ _ (by kernel_rfl) rfl rfl
   exact zsr
  refine zqp ?_
  refine zqp ?_
  refine zqp ?_
  refine zql ?_
  refine zqf (tupAt (vsu8) 2) ?_
  refine chn_end (fun wz lo hi hbz hd hR => ?_)
  obtain ⟨C1,x1,C2,x2,rfl,oI,oB⟩:StF T2 [.bool bu,.int .i64 0] vsu8 (lo 8) (hi 8) wz:=hd 8 _ _ rfl rfl
  have r9:=(hR.2 8 _ rfl).1
  have hsz:=hb0.size
  have BZ:Below W7.heap.size W7 wz:=hb0.trans (hbz.mono hsz)
  have kBz:=kB8.below_ BZ kB8.lt
  have zBz:=kBz.lt
  clear hd hR p1 p2 pj
  obtain ⟨-,m1,m2,-⟩:=zc11 kBz
  obtain ⟨-,mf1,mf2,-⟩:=zf kBz
  unfold stV
  simp only [tupAt,List.getD_cons_succ,List.getD_cons_zero,Array.getD_eq_getD_getElem?,zy5,zy6,zy7,Option.getD_some]
  refine late_one (by simp only [zy5,zy6,zy7];rfl) (fun K Q' hK => ?_)
  go_simp
  refine hK.out _ ?_
  clear hK K Q'
  obtain ⟨W8,hW8⟩:∃ V,(wz.setCell ⟨B,1,none⟩ (.slice C1 T2.refs.length x1)).setCell ⟨B,2,none⟩ (.slice C2 T2.busy.length x2) = V:=⟨_,rfl⟩
  have K8:WkAt W8 base B ⟨C1,x1,C2,x2,b2,k2,b3,k3,b4,k4,b5,k5,b6,k6,b7,k7⟩ { s with dk:=D,po:=P,desc:=s.desc.eraseIdx n,wr:=wr',rd:=rd',sl:=T2 }:=by rw [← hW8];exact HK7.out.slots BZ (oI.base_ (by omega)) (oB.base_ (by omega))
  have kJ8:Blk W8 (w.heap.size + 1) 115 (zkj jw js_ jf e0 e1 e2 e3 e4 e5 e6 e7).toArray:=by rw [← hW8];exact ((kJ7.below_ BZ kJ7.lt).far_ (p:=⟨B,1,none⟩) (by show _ ≠ B;omega) _).far_ (p:=⟨B,2,none⟩) (by show _ ≠ B;omega) _
  have kD8:Blk W8 w.heap.size 55 (zkn false 0 0 0 0 0 0 0 0 0 0 0).toArray:=by rw [← hW8];exact ((kD7.below_ BZ kD7.lt).far_ (p:=⟨B,1,none⟩) (by show _ ≠ B;omega) _).far_ (p:=⟨B,2,none⟩) (by show _ ≠ B;omega) _
  have B8:Below base w W8:=by rw [← hW8];exact ((B7.trans (BZ.mono (by have:=B7.size;omega))).setCell (p:=⟨B,1,none⟩) hlow _).setCell (p:=⟨B,2,none⟩) hlow _
  have HK8:=Lib.hid K8
  have kB8:=K8.blk
  rw [hW8]
  clear hW8 K8 m1 m2 mf1 mf2 kBz zBz r9 oI oB
  have zKJ:=kJ8.lt
  have zKD:=kD8.lt
  obtain ⟨a0,a1,a2,a3,a4,a5,a6,a7,a8,a9,a10⟩:=zc11 kJ8
  obtain ⟨dz0,dz1,dz2,dz3,dz4,dz5,dz6,dz7,dz8,dz9,dz10,dz11⟩:=zc12 kD8
  obtain ⟨dzf0,dzf1,dzf2,dzf3,dzf4,dzf5,dzf6,dzf7,dzf8,dzf9,dzf10,dzf11⟩:=zf kD8
  go_wp2_with fail
  obtain ⟨Z,hZ⟩:∃ Z,setN W8 w.heap.size 0 (zkn jw js_ jf pr e0 e1 e2 e3 e4 e5 e6 e7) = Z:=⟨_,rfl⟩
  have hZn:=zs12 hZ
  have kZ:=zsw hZ kD8
  have KZ:WkAt Z base B ⟨C1,x1,C2,x2,b2,k2,b3,k3,b4,k4,b5,k5,b6,k6,b7,k7⟩ ⟨s.cap,T2,wr',rd',s.desc.eraseIdx n,D,P⟩:=by rw [← hZ];exact HK8.out.farD kD8 _
  have BZZ:=zbw hZ B8 hbw
  have HKZ:=Lib.hid KZ
  rw [hZn]
  clear hZn hZ KZ dz0 dzf0 dz1 dzf1 dz2 dzf2 dz3 dzf3 dz4 dzf4 dz5 dzf5 dz6 dzf6 dz7 dzf7 dz8 dzf8 dz9 dzf9 dz10 dzf10 dz11 dzf11
  refine bodyPost_ret (by simp [results,Tryz.results79,go_sem,zc12 kZ] <;> rfl) rfl ?_
  exact ⟨rfl,⟨⟨C1,x1,C2,x2,b2,k2,b3,k3,b4,k4,b5,k5,b6,k6,b7,k7⟩,HKZ.out⟩,BZZ⟩
end Go.Proofs.YthijbipidbjpfaaGreatDoor
