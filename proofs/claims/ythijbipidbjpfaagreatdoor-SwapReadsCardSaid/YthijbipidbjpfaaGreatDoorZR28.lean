import Derived.Test.YthijbipidbjpfaaGreatDoorZR27
import Derived.Test.YthijbipidbjpfaaGreatDoorZR24
import Derived.Test.YthijbipidbjpfaaGreatDoorZR00
import Derived.Test.YthijbipidbjpfaaGreatDoorZR04
import Derived.Test.YthijbipidbjpfaaGreatDoorZR14
import Derived.Test.YthijbipidbjpfaaGreatDoorZR06
import Derived.Test.YthijbipidbjpfaaGreatDoorZR03
import Derived.Test.YthijbipidbjpfaaGreatDoorZR22
import Derived.Test.YthijbipidbjpfaaGreatDoorZR20
import Derived.ProofKit
import Derived.OpenShut
import Derived.Lib.SmallJoins
import Derived.Test.YthijbipidbjpfaaGreatDoorTie
import Derived.Test.YthijbipidbjpfaaGreatDoorCards
import Derived.Test.YthijbipidbjpfaaGreatDoorZR07
import Derived.LaidMore
import Derived.Stop.Joined
import Derived.ChangeSame
import Derived.Deep.Slices
import Derived.Deep.SlicePairs
set_option linter.unusedSimpArgs false
set_option linter.unusedVariables false
set_option maxRecDepth 100000
set_option maxHeartbeats 8000000
namespace Go.Proofs.YthijbipidbjpfaaGreatDoor
open Go.RowKit Go.Maps
theorem rwKill_any (L:Lay) (s:Swp) (p:Int) (w:World) (h:SwR w L s) (hf:Few s) :
  Calls Tryz.prog 35 #[swV L s,.int .i64 p] w (SwPo (kilW s p).1 [.bool (kilW s p).2.1,.int .i64 (kilW s p).2.2] w):=by
 obtain ⟨a0,c0,a1,c1,a2,c2,a3,c3,a4,c4,a5,c5,a6,c6,a7,c7⟩:=L
 have HA:=Lib.hid h
 have HFW:=Lib.hid hf
 obtain ⟨Q,hQ⟩:∃ Q,kilW s p = Q:=⟨_,rfl⟩
 rw [hQ]
 have HQ:=Lib.hid hQ
 clear hQ h hf
 unfold swV swC
 obtain ⟨X,hX⟩:∃ X,(w.alloc (.cells (zkx s a0 c0 a1 c1 a2 c2 a3 c3 a4 c4 a5 c5 a6 c6 a7 c7).toArray 35)).alloc (.cells zkz.toArray 35) = X:=⟨_,rfl⟩
 have kX:=za1 hX
 have kR:=za2 hX
 have BX:Below w.heap.size w X:=by rw [← hX];exact zbl
 obtain ⟨z,hzz⟩:∃ z,chkW s = z:=⟨_,rfl⟩
 have HZZ:=Lib.hid hzz
 have hC:=rwCheck_any ⟨a0,c0,a1,c1,a2,c2,a3,c3,a4,c4,a5,c5,a6,c6,a7,c7⟩ s X (HA.out.ext BX) HFW.out
 rw [hzz] at hC
 have HC:=Lib.hid hC
 clear hC hzz
 have zkX:=kX.lt
 obtain ⟨q0,q1,q2,q3,q4,q5,q6,q7,q8,q9,q10⟩:=zc11 kX
 go_enter Tryz.func35,Tryz.ntmps35
 go_wp2_with fail
 (try rw [hX])
 clear hX
 refine HC.out.mono ?_
 rintro e1 w1 ⟨rfl,hb1⟩
 have B1:=zbt BX hb1
 replace kX:=kX.below_ hb1 kX.lt
 replace kR:=kR.below_ hb1 kR.lt
 clear hb1
 clear zkX q0 q1 q2 q3 q4 q5 q6 q7 q8 q9 q10
 by_cases z0:z = 0
 ·subst z0
  have HOK:Hid (OkS s):=chkW_ok.1 HZZ.out
  by_cases hp:1 ≤ p∧p ≤ 8
  ·have HP:=Lib.hid hp
   have d1:(p < 1) = False:=by simp;omega
   have d2:(8 < p) = False:=by simp;omega
   have HE:Hid (Q = ({ s with wr:=relW s.wr p,rd:=relW s.rd p },decide (0 < tmsL (s.wr ++ s.rd) p),0)):=by
    show _ = _
    rw [← HQ.out,(kil_ok HOK.out hp).1,any_tms s (by omega)]
   have HTM:=Lib.hid (fun W hW => rwTimes_any ⟨a0,c0,a1,c1,a2,c2,a3,c3,a4,c4,a5,c5,a6,c6,a7,c7⟩ s p W hW HFW.out)
   have HL:=Lib.hid (rwOwn_any ⟨a0,c0,a1,c1,a2,c2,a3,c3,a4,c4,a5,c5,a6,c6,a7,c7⟩ s w1 (HA.out.ext B1) HFW.out)
   have zkX:=kX.lt
   obtain ⟨q0,q1,q2,q3,q4,q5,q6,q7,q8,q9,q10⟩:=zc11 kX
   go_wp2_with fail
   refine HL.out.mono ?_
   rintro e4 w4 ⟨⟨b0,k0,b1,k1,b2,k2,b3,k3,b4,k4,b5,k5,b6,k6,b7,k7⟩,rfl,O4,hb4⟩
   have hw34:=hb4.size
   have HKR0:w.heap.size + 1 < w1.heap.size:=kR.lt
   have B4:=zbt B1 hb4
   replace kX:=kX.below_ hb4 kX.lt
   replace kR:=kR.below_ hb4 kR.lt
   clear hb4
   clear zkX q0 q1 q2 q3 q4 q5 q6 q7 q8 q9 q10
   unfold swV swC
   dsimp only
   go_upto_region 7 with fail
   obtain ⟨V4,hV4⟩:∃ V,w4.alloc (.cells (zkx s b0 k0 b1 k1 b2 k2 b3 k3 b4 k4 b5 k5 b6 k6 b7 k7).toArray 35) = V:=⟨_,rfl⟩
   obtain ⟨G,hG⟩:∃ G,w4.heap.size = G:=⟨_,rfl⟩
   have kG:Blk V4 G 35 (zkx s b0 k0 b1 k1 b2 k2 b3 k3 b4 k4 b5 k5 b6 k6 b7 k7).toArray:=by rw [← hV4,← hG];exact Blk.new_ rfl rfl
   have BV4:=zab hV4
   have hgt:SgAt V4 w1.heap.size G ⟨b0,k0,b1,k1,b2,k2,b3,k3,b4,k4,b5,k5,b6,k6,b7,k7⟩ s:=⟨kG,O4.ext BV4⟩
   have HSG:=Lib.hid hgt
   replace kX:=kX.below_ BV4 kX.lt
   replace kR:=kR.below_ BV4 kR.lt
   replace B4:=B4.trans (BV4.mono B4.size)
   have hwG1:w.heap.size + 1 < G:=by omega
   rw [hV4,hG]
   clear hV4 hG BV4 O4 hgt
   have zG:=kG.lt
   have f2:=HFW.out.f2
   have f3:=HFW.out.f3
   obtain ⟨-,-,-,u3,-⟩:=zc11 kG
   go_wp2_with fail
   clear u3
   go_loopw [9] (fun i wr => ∃ k:Nat,k ≤ s.wr.length∧i = .int .i64 k∧Hid (SgAt wr w1.heap.size G ⟨b0,k0,b1,k1,b2,k2,b3,k3,b4,k4,b5,k5,b6,k6,b7,k7⟩ { s with wr:=relW (s.wr.take k) p ++ s.wr.drop k })∧Hid (Blk wr w.heap.size 35 (zkx s a0 c0 a1 c1 a2 c2 a3 c3 a4 c4 a5 c5 a6 c6 a7 c7).toArray)∧Hid (Blk wr (w.heap.size + 1) 35 zkz.toArray)∧Below w.heap.size w wr) (fun i _ => s.wr.length - (intOf i).toNat)
   case atStart => exact ⟨0,by omega,rfl,(by show SgAt _ _ _ _ _;have e:relW (s.wr.take 0) p ++ s.wr.drop 0 = s.wr:=(by simp [relW]);rw [e];exact HSG.out),kX,kR,B4⟩
   case round =>
    obtain ⟨k,hk,rfl,HW,HKX,HKR,hb⟩:=hrel
    have kBr:Blk wr G 35 (zkx s b0 k0 b1 k1 b2 k2 b3 k3 b4 k4 b5 k5 b6 k6 b7 k7).toArray:=by
     have:=HW.out.blk
     unfold swC at this
     (try dsimp only at this)
     rw [rel_len] at this
     (try rw [relW_len] at this)
     exact this
    have zBr:=kBr.lt
    obtain ⟨-,-,-,u3,-⟩:=zc11 kBr
    by_cases hlt:k < s.wr.length
    ·have i1:(k:Int) < s.wr.length:=by omega
     obtain ⟨x,hx⟩:∃ x,s.wr[k]? = some x:=⟨_,List.getElem?_eq_getElem hlt⟩
     have HX:=Lib.hid hx
     obtain ⟨g,rfl,hg,hgl,hgc,hgf,hput⟩:=HW.out.putW (rel_at (p:=p) hx)
     obtain ⟨x0,x1,x2⟩:=x
     dsimp only at hgc hput
     have HPUT:=Lib.hid hput
     clear hx hput
     by_cases e2:x2 = p
     ·subst e2
      have HN:=Lib.hid (rel_hit HX.out rfl)
      go_wp2_with fail
      go_roundw
      case rel =>
       refine ⟨k + 1,by omega,by go_num,?_,HKX.out.far_ (p:=⟨g,k * 3 + 2,none⟩) (by show w.heap.size ≠ g;omega) _,HKR.out.far_ (p:=⟨g,k * 3 + 2,none⟩) (by show w.heap.size + 1 ≠ g;omega) _,hb.setCell (p:=⟨g,k * 3 + 2,none⟩) (by show w.heap.size ≤ g;omega) _⟩
       have:=HPUT.out 0
       (try dsimp only at this)
       have e:=HN.out
       (try dsimp only at e)
       rw [e] at this
       exact this
      case measure => simp [intOf];omega
     ·have e2b:(x2 == p) = false:=by simpa using e2
      have HN:=Lib.hid (rel_miss HX.out e2)
      clear e2
      go_wp2_with fail
      go_roundw
      case rel =>
       refine ⟨k + 1,by omega,by go_num,?_,HKX,HKR,hb⟩
       have e:=HN.out
       rw [← e]
       exact HW
      case measure => simp [intOf];omega
    ·obtain rfl:k = s.wr.length:=by omega
     obtain ⟨wp,rfl⟩:∃ wp,wp = wr:=⟨_,rfl⟩
     have hsg:SgAt wp w1.heap.size G ⟨b0,k0,b1,k1,b2,k2,b3,k3,b4,k4,b5,k5,b6,k6,b7,k7⟩ { s with wr:=relW s.wr p }:=by
      have:=HW.out
      rw [List.take_length,List.drop_length,List.append_nil] at this
      exact this
     clear HSG kX kR B4 kG zG
     have HSG:=Lib.hid hsg
     have kX:=HKX.out
     have kR:=HKR.out
     have B4:=hb
     have kG:=kBr
     clear hsg HKX HKR hb HW
     obtain ⟨-,-,-,-,u4,-⟩:=zc11 kG
     go_wp2_with fail
     clear u4
     go_loopw [10] (fun i wr => ∃ k:Nat,k ≤ s.rd.length∧i = .int .i64 k∧Hid (SgAt wr w1.heap.size G ⟨b0,k0,b1,k1,b2,k2,b3,k3,b4,k4,b5,k5,b6,k6,b7,k7⟩ { s with wr:=relW s.wr p,rd:=relW (s.rd.take k) p ++ s.rd.drop k })∧Hid (Blk wr w.heap.size 35 (zkx s a0 c0 a1 c1 a2 c2 a3 c3 a4 c4 a5 c5 a6 c6 a7 c7).toArray)∧Hid (Blk wr (w.heap.size + 1) 35 zkz.toArray)∧Below w.heap.size w wr) (fun i _ => s.rd.length - (intOf i).toNat)
     case atStart => exact ⟨0,by omega,rfl,(by show SgAt _ _ _ _ _;have e:relW (s.rd.take 0) p ++ s.rd.drop 0 = s.rd:=(by simp [relW]);rw [e];exact HSG.out),kX,kR,B4⟩
     case round =>
      obtain ⟨k,hk,rfl,HW,HKX,HKR,hb⟩:=hrel
      have kBr:Blk wr G 35 (zkx s b0 k0 b1 k1 b2 k2 b3 k3 b4 k4 b5 k5 b6 k6 b7 k7).toArray:=by
       have:=HW.out.blk
       unfold swC at this
       (try dsimp only at this)
       rw [rel_len] at this
       (try rw [relW_len] at this)
       exact this
      have zBr:=kBr.lt
      obtain ⟨-,-,-,-,u4,-⟩:=zc11 kBr
      by_cases hlt:k < s.rd.length
      ·have i1:(k:Int) < s.rd.length:=by omega
       obtain ⟨x,hx⟩:∃ x,s.rd[k]? = some x:=⟨_,List.getElem?_eq_getElem hlt⟩
       have HX:=Lib.hid hx
       obtain ⟨g,rfl,hg,hgl,hgc,hgf,hput⟩:=HW.out.putR (rel_at (p:=p) hx)
       obtain ⟨x0,x1,x2⟩:=x
       dsimp only at hgc hput
       have HPUT:=Lib.hid hput
       clear hx hput
       by_cases e2:x2 = p
       ·subst e2
        have HN:=Lib.hid (rel_hit HX.out rfl)
        go_wp2_with fail
        go_roundw
        case rel =>
         refine ⟨k + 1,by omega,by go_num,?_,HKX.out.far_ (p:=⟨g,k * 3 + 2,none⟩) (by show w.heap.size ≠ g;omega) _,HKR.out.far_ (p:=⟨g,k * 3 + 2,none⟩) (by show w.heap.size + 1 ≠ g;omega) _,hb.setCell (p:=⟨g,k * 3 + 2,none⟩) (by show w.heap.size ≤ g;omega) _⟩
         have:=HPUT.out 0
         (try dsimp only at this)
         have e:=HN.out
         (try dsimp only at e)
         rw [e] at this
         exact this
        case measure => simp [intOf];omega
       ·have e2b:(x2 == p) = false:=by simpa using e2
        have HN:=Lib.hid (rel_miss HX.out e2)
        clear e2
        go_wp2_with fail
        go_roundw
        case rel =>
         refine ⟨k + 1,by omega,by go_num,?_,HKX,HKR,hb⟩
         have e:=HN.out
         rw [← e]
         exact HW
        case measure => simp [intOf];omega
      ·obtain rfl:k = s.rd.length:=by omega
       obtain ⟨wq,rfl⟩:∃ wq,wq = wr:=⟨_,rfl⟩
       have hsg:SgAt wq w1.heap.size G ⟨b0,k0,b1,k1,b2,k2,b3,k3,b4,k4,b5,k5,b6,k6,b7,k7⟩ { s with wr:=relW s.wr p,rd:=relW s.rd p }:=by
        have:=HW.out
        rw [List.take_length,List.drop_length,List.append_nil] at this
        exact this
       have HO5:=Lib.hid hsg.own
       clear HSG kX kR B4 kG
       have kX:=HKX.out
       have kR:=HKR.out
       have kG:=kBr
       have B5:=hb
       clear hsg HKX HKR hb HW kBr
       have zGq:=kG.lt
       obtain ⟨m,hm⟩:∃ m:Nat,tmsL (s.wr ++ s.rd) p = m:=⟨_,rfl⟩
       rw [hm] at HE HTM
       clear hm
       unfold swV swC at HTM
       go_upto_region 17 with fail
       obtain ⟨cv,hcv⟩:∃ V,wq.drew = V:=⟨_,rfl⟩
       have b5:Below wq.heap.size wq cv:=by rw [← hcv];exact (Below.refl _ _).drew
       replace kG:=kG.below_ b5 kG.lt
       replace kX:=kX.below_ b5 kX.lt
       replace kR:=kR.below_ b5 kR.lt
       replace HO5:=Lib.hid (HO5.out.ext b5)
       have cb:=B5.trans (b5.mono B5.size)
       clear b5 B5
       have hS_of:∀ {V:World},Blk V G 35 (zkx s b0 k0 b1 k1 b2 k2 b3 k3 b4 k4 b5 k5 b6 k6 b7 k7).toArray→Blk V w.heap.size 35 (zkx s a0 c0 a1 c1 a2 c2 a3 c3 a4 c4 a5 c5 a6 c6 a7 c7).toArray→(V.cell? ⟨G,0,none⟩ = some (.int .i64 s.cap)∧V.cell? ⟨G,1,none⟩ = some (.slice b0 s.sl.refs.length k0)∧V.cell? ⟨G,2,none⟩ = some (.slice b1 s.sl.busy.length k1)∧V.cell? ⟨G,3,none⟩ = some (.slice b2 s.wr.length k2)∧V.cell? ⟨G,4,none⟩ = some (.slice b3 s.rd.length k3)∧V.cell? ⟨G,5,none⟩ = some (.slice b4 s.desc.length k4)∧V.cell? ⟨G,6,none⟩ = some (.slice b5 s.dk.cells.length k5)∧V.cell? ⟨G,7,none⟩ = some (.slice b6 s.dk.jobs.length k6)∧V.cell? ⟨G,8,none⟩ = some (.int .i64 s.dk.room)∧V.cell? ⟨G,9,none⟩ = some (.int .i64 s.po.size)∧V.cell? ⟨G,10,none⟩ = some (.slice b7 s.po.free.length k7)∧V.cell? ⟨w.heap.size,0,none⟩ = some (.int .i64 s.cap)∧V.cell? ⟨w.heap.size,1,none⟩ = some (.slice a0 s.sl.refs.length c0)∧V.cell? ⟨w.heap.size,2,none⟩ = some (.slice a1 s.sl.busy.length c1)∧V.cell? ⟨w.heap.size,3,none⟩ = some (.slice a2 s.wr.length c2)∧V.cell? ⟨w.heap.size,4,none⟩ = some (.slice a3 s.rd.length c3)∧V.cell? ⟨w.heap.size,5,none⟩ = some (.slice a4 s.desc.length c4)∧V.cell? ⟨w.heap.size,6,none⟩ = some (.slice a5 s.dk.cells.length c5)∧V.cell? ⟨w.heap.size,7,none⟩ = some (.slice a6 s.dk.jobs.length c6)∧V.cell? ⟨w.heap.size,8,none⟩ = some (.int .i64 s.dk.room)∧V.cell? ⟨w.heap.size,9,none⟩ = some (.int .i64 s.po.size)∧V.cell? ⟨w.heap.size,10,none⟩ = some (.slice a7 s.po.free.length c7)):=fun h1 h2 => ⟨by simpa using h1.cell_ 0,by simpa using h1.cell_ 1,by simpa using h1.cell_ 2,by simpa using h1.cell_ 3,by simpa using h1.cell_ 4,by simpa using h1.cell_ 5,by simpa using h1.cell_ 6,by simpa using h1.cell_ 7,by simpa using h1.cell_ 8,by simpa using h1.cell_ 9,by simpa using h1.cell_ 10,by simpa using h2.cell_ 0,by simpa using h2.cell_ 1,by simpa using h2.cell_ 2,by simpa using h2.cell_ 3,by simpa using h2.cell_ 4,by simpa using h2.cell_ 5,by simpa using h2.cell_ 6,by simpa using h2.cell_ 7,by simpa using h2.cell_ 8,by simpa using h2.cell_ 9,by simpa using h2.cell_ 10⟩
       have hS:=hS_of kG kX
       refine wp_region_held_drew (S:=fun V => V.cell? ⟨G,0,none⟩ = some (.int .i64 s.cap)∧V.cell? ⟨G,1,none⟩ = some (.slice b0 s.sl.refs.length k0)∧V.cell? ⟨G,2,none⟩ = some (.slice b1 s.sl.busy.length k1)∧V.cell? ⟨G,3,none⟩ = some (.slice b2 s.wr.length k2)∧V.cell? ⟨G,4,none⟩ = some (.slice b3 s.rd.length k3)∧V.cell? ⟨G,5,none⟩ = some (.slice b4 s.desc.length k4)∧V.cell? ⟨G,6,none⟩ = some (.slice b5 s.dk.cells.length k5)∧V.cell? ⟨G,7,none⟩ = some (.slice b6 s.dk.jobs.length k6)∧V.cell? ⟨G,8,none⟩ = some (.int .i64 s.dk.room)∧V.cell? ⟨G,9,none⟩ = some (.int .i64 s.po.size)∧V.cell? ⟨G,10,none⟩ = some (.slice b7 s.po.free.length k7)∧V.cell? ⟨w.heap.size,0,none⟩ = some (.int .i64 s.cap)∧V.cell? ⟨w.heap.size,1,none⟩ = some (.slice a0 s.sl.refs.length c0)∧V.cell? ⟨w.heap.size,2,none⟩ = some (.slice a1 s.sl.busy.length c1)∧V.cell? ⟨w.heap.size,3,none⟩ = some (.slice a2 s.wr.length c2)∧V.cell? ⟨w.heap.size,4,none⟩ = some (.slice a3 s.rd.length c3)∧V.cell? ⟨w.heap.size,5,none⟩ = some (.slice a4 s.desc.length c4)∧V.cell? ⟨w.heap.size,6,none⟩ = some (.slice a5 s.dk.cells.length c5)∧V.cell? ⟨w.heap.size,7,none⟩ = some (.slice a6 s.dk.jobs.length c6)∧V.cell? ⟨w.heap.size,8,none⟩ = some (.int .i64 s.dk.room)∧V.cell? ⟨w.heap.size,9,none⟩ = some (.int .i64 s.po.size)∧V.cell? ⟨w.heap.size,10,none⟩ = some (.slice a7 s.po.free.length c7)) (by kernel_rfl) ?_ (fun hHeld => ?_)
       ·(rw [hcv];exact hS)
       rw [hcv]
       clear hcv
       refine zht 0 ?_
       refine zht 1 ?_
       refine zht 2 ?_
       refine zhr 3 (fun K hK => ?_)
       go_simp
       refine (HTM.out _ (HA.out.ext cb)).mono ?_
       rintro e y ⟨rfl,hy⟩
       replace cb:=cb.trans (hy.mono cb.size)
       replace kG:=kG.below_ hy kG.lt
       replace kX:=kX.below_ hy kX.lt
       replace kR:=kR.below_ hy kR.lt
       replace HO5:=Lib.hid (HO5.out.ext hy)
       replace hS:=hS_of kG kX
       clear hy
       obtain ⟨cv,rfl⟩:∃ V,V = y:=⟨_,rfl⟩
       go_wp2_with fail
       refine hK.out _ _ (by exact hS) fun hHeld => ?_
       clear hK K
       (try simp only [Act.put,zy0,zy1,zy2])
       refine zht 4 ?_
       refine zhr 5 (fun K hK => ?_)
       obtain ⟨t0,t1,t2,t3,t4,t5,t6,t7,t8,t9,t10⟩:=zc11 kR
       obtain ⟨tf0,tf1,tf2,tf3,tf4,tf5,tf6,tf7,tf8,tf9,tf10,-⟩:=zf kR
       have zkR:=kR.lt
       go_simp
       obtain ⟨cx,hcx⟩:∃ V,setN cv (w.heap.size + 1) 0 (zkx s b0 k0 b1 k1 b2 k2 b3 k3 b4 k4 b5 k5 b6 k6 b7 k7) = V:=⟨_,rfl⟩
       rw [zs11 hcx]
       have hgv:cv.grownBy cx (some (w.heap.size + 1)):=by rw [← hcx];exact grown_setN _ _ _ _
       replace HO5:Hid (SwO cx w1.heap.size ⟨b0,k0,b1,k1,b2,k2,b3,k3,b4,k4,b5,k5,b6,k6,b7,k7⟩ { s with wr:=relW s.wr p,rd:=relW s.rd p }):=by show SwO _ _ _ _;rw [← hcx];exact HO5.out.farO kR _
       replace kR:Blk cx (w.heap.size + 1) 35 (zkx s b0 k0 b1 k1 b2 k2 b3 k3 b4 k4 b5 k5 b6 k6 b7 k7).toArray:=by rw [← hcx];exact blk_setN kR _ rfl
       clear hcx zkR t0 tf0 t1 tf1 t2 tf2 t3 tf3 t4 tf4 t5 tf5 t6 tf6 t7 tf7 t8 tf8 t9 tf9 t10 tf10
       replace kG:=kG.kept hgv (by simp;omega)
       replace kX:=kX.kept hgv (by simp)
       replace cb:=below_grownB cb hgv (by omega) (Nat.le_refl _)
       replace hS:=hS_of kG kX
       clear hgv
       obtain ⟨cv,rfl⟩:∃ V,V = cx:=⟨_,rfl⟩
       refine hK.out _ _ (by exact hS) fun hHeld => ?_
       clear hK K
       (try simp only [Act.put,zy0,zy1,zy2])
       refine zht 6 ?_
       refine zht 7 ?_
       refine wpAnyH_done (by kernel_rfl) ?_ _
       go_wp2_with fail
       refine bodyPost_ret (by simp [results,Tryz.results35,go_sem,zc11 kR] <;> rfl) rfl ?_
       rw [HE.out]
       exact ⟨⟨b0,k0,b1,k1,b2,k2,b3,k3,b4,k4,b5,k5,b6,k6,b7,k7⟩,by simp only [swV,swC,relW_len],HO5.out.base_ (Nat.zero_le _),cb⟩
  ·by_cases p0:p < 1
   ·have HE:Hid (Q = (.zero,false,2)):=by show _ = _;rw [← HQ.out];unfold kilW;rw [HZZ.out,if_neg (by simp),if_pos (.inl p0)]
    have p0b:decide (p < 1) = true:=by simpa using p0
    clear p0 hp
    have ztR:=kR.lt
    obtain ⟨t0,t1,t2,t3,t4,t5,t6,t7,t8,t9,t10⟩:=zc11 kR
    obtain ⟨tf0,tf1,tf2,tf3,tf4,tf5,tf6,tf7,tf8,tf9,tf10,-⟩:=zf kR
    go_wp2_with fail
    obtain ⟨W,hW⟩:∃ W,setN w1 (w.heap.size + 1) 0 zkz = W:=⟨_,rfl⟩
    have hWn:=zs11 hW
    have kW:=zsw hW kR
    have bW:=zbw hW B1 (by omega)
    rw [hWn]
    clear hWn hW t0 tf0 t1 tf1 t2 tf2 t3 tf3 t4 tf4 t5 tf5 t6 tf6 t7 tf7 t8 tf8 t9 tf9 t10 tf10
    refine bodyPost_ret (by simp [results,Tryz.results35,go_sem,zc11 kW] <;> rfl) rfl ?_
    rw [HE.out]
    exact ⟨.zero,rfl,SwO.zero,bW⟩
   ·have HE:Hid (Q = (.zero,false,2)):=by show _ = _;rw [← HQ.out];unfold kilW;rw [HZZ.out,if_neg (by simp),if_pos (.inr (by omega))]
    have p0b:decide (p < 1) = false:=by simpa using p0
    have p1b:decide (p > 8) = true:=decide_eq_true (by omega)
    clear p0 hp
    have ztR:=kR.lt
    obtain ⟨t0,t1,t2,t3,t4,t5,t6,t7,t8,t9,t10⟩:=zc11 kR
    obtain ⟨tf0,tf1,tf2,tf3,tf4,tf5,tf6,tf7,tf8,tf9,tf10,-⟩:=zf kR
    go_wp2_with fail
    obtain ⟨W,hW⟩:∃ W,setN w1 (w.heap.size + 1) 0 zkz = W:=⟨_,rfl⟩
    have hWn:=zs11 hW
    have kW:=zsw hW kR
    have bW:=zbw hW B1 (by omega)
    rw [hWn]
    clear hWn hW t0 tf0 t1 tf1 t2 tf2 t3 tf3 t4 tf4 t5 tf5 t6 tf6 t7 tf7 t8 tf8 t9 tf9 t10 tf10
    refine bodyPost_ret (by simp [results,Tryz.results35,go_sem,zc11 kW] <;> rfl) rfl ?_
    rw [HE.out]
    exact ⟨.zero,rfl,SwO.zero,bW⟩
 ·have HE:Hid (Q = (.zero,false,z)):=by show _ = _;rw [← HQ.out];unfold kilW;rw [HZZ.out,if_pos z0]
  have zb:(z != 0) = true:=by simpa using z0
  have zc:(z == 0) = false:=by simpa using z0
  clear z0
  have ztR:=kR.lt
  obtain ⟨t0,t1,t2,t3,t4,t5,t6,t7,t8,t9,t10⟩:=zc11 kR
  obtain ⟨tf0,tf1,tf2,tf3,tf4,tf5,tf6,tf7,tf8,tf9,tf10,-⟩:=zf kR
  go_wp2_with fail
  obtain ⟨W,hW⟩:∃ W,setN w1 (w.heap.size + 1) 0 zkz = W:=⟨_,rfl⟩
  have hWn:=zs11 hW
  have kW:=zsw hW kR
  have bW:=zbw hW B1 (by omega)
  rw [hWn]
  clear hWn hW t0 tf0 t1 tf1 t2 tf2 t3 tf3 t4 tf4 t5 tf5 t6 tf6 t7 tf7 t8 tf8 t9 tf9 t10 tf10
  refine bodyPost_ret (by simp [results,Tryz.results35,go_sem,zc11 kW] <;> rfl) rfl ?_
  rw [HE.out]
  exact ⟨.zero,rfl,SwO.zero,bW⟩
theorem few_zero:Few .zero:=⟨by decide,by decide,by decide,by decide,by decide,by decide,by decide,by decide⟩
theorem redW_few {s:Swp} (h:Few s) (n f p:Int):Few (redW s n f p).1:=by
 by_cases h1:chkW s ≠ 0
 ·unfold redW;rw [if_pos h1];exact few_zero
 by_cases h2:(!frW f) = true
 ·unfold redW;rw [if_neg h1,if_pos h2];exact few_zero
 by_cases h3:askW s n p ≠ 0
 ·unfold redW;rw [if_neg h1,if_neg h2,if_pos h3];exact few_zero
 by_cases h4:(bsyT s.sl n.toNat || usW s f) = true
 ·unfold redW;rw [if_neg h1,if_neg h2,if_neg h3,if_pos h4];exact few_zero
 by_cases h5:s.dk.room ≤ s.dk.jobs.length
 ·unfold redW;rw [if_neg h1,if_neg h2,if_neg h3,if_neg h4,if_pos h5];exact few_zero
 simp only [Bool.or_eq_true,not_or,Bool.not_eq_true] at h4;obtain ⟨d,l,_,e,hok⟩:=red_ok (chkW_ok.1 (by simpa using h1)) (n:=n) (f:=f) (p:=p) (by simpa using h2) (by simpa using h3) h4.1 h4.2 (by omega);rw [e];exact Few.of_ok hok (by have:=h.f0;simpa [witT] using this)
theorem claW_few {s:Swp} (h:Few s) (n p:Int):Few (claW s n p).1:=by
 by_cases h1:chkW s ≠ 0
 ·unfold claW;rw [if_pos h1];exact few_zero
 by_cases h3:askW s n p ≠ 0
 ·unfold claW;rw [if_neg h1,if_pos h3];exact few_zero
 unfold claW;rw [if_neg h1,if_neg h3]
 split
 ·exact few_zero
 split
 ·exact few_zero
 ·obtain ⟨f0,f1,f2,f3,f4,f5,f6,f7⟩:=h
  exact ⟨f0,f1,by simpa [setC] using f2,f3,f4,f5,f6,f7⟩
theorem kilW_few {s:Swp} (h:Few s) (p:Int):Few (kilW s p).1:=by
 unfold kilW
 split
 ·exact few_zero
 split
 ·exact few_zero
 ·obtain ⟨f0,f1,f2,f3,f4,f5,f6,f7⟩:=h
  exact ⟨f0,f1,by simpa [relW] using f2,by simpa [relW] using f3,f4,f5,f6,f7⟩
theorem swapReads_walk (L:Lay) (s:Swp) (n f p:Int) (w:World) (h:SwR w L s) (hwf:∀ v ∈ s.rd,(Lit.int .i64 v.2.2).wf = true) (_h1:(Lit.int .i64 n).wf = true) (_h2:(Lit.int .i64 f).wf = true) (_h3:(Lit.int .i64 p).wf = true) (hz:TZ w) :
  Calls Tryz.prog 6 #[swV L s,.int .i64 n,.int .i64 f,.int .i64 p] w fun e w' => e = .returned (.bool true)∧Below w.heap.size w w':=by
 obtain ⟨a0,c0,a1,c1,a2,c2,a3,c3,a4,c4,a5,c5,a6,c6,a7,c7⟩:=L
 have HS:=Lib.hid h
 have HTZ:=Lib.hid hz
 have HWF:=Lib.hid hwf
 have HW0:0 < w.heap.size:=hz.pos
 clear h hz hwf _h1 _h2 _h3
 obtain ⟨lg,hlg⟩:∃ b,larW s = b:=⟨_,rfl⟩
 have hLA:=fun W => large_any ⟨a0,c0,a1,c1,a2,c2,a3,c3,a4,c4,a5,c5,a6,c6,a7,c7⟩ s W
 rw [hlg] at hLA
 have HLA:=Lib.hid hLA
 clear hLA
 unfold swV swC at HLA
 unfold swV swC
 obtain ⟨X,hX⟩:∃ X,w.alloc (.cells (zkx s a0 c0 a1 c1 a2 c2 a3 c3 a4 c4 a5 c5 a6 c6 a7 c7).toArray 35) = X:=⟨_,rfl⟩
 have kS:=za hX
 have BX:Below w.heap.size w X:=by rw [← hX];exact zbl
 have zkS_:=kS.lt
 obtain ⟨q0,q1,q2,q3,q4,q5,q6,q7,q8,q9,q10⟩:=zc11 kS
 go_enter Tryz.func6,Tryz.ntmps6
 go_wp2_with fail
 (try rw [hX])
 clear hX
 refine (HLA.out X).mono ?_
 rintro e1 w1 ⟨rfl,hb1⟩
 have B1:=zbt BX hb1
 replace kS:=kS.below_ hb1 kS.lt
 clear zkS_ q0 q1 q2 q3 q4 q5 q6 q7 q8 q9 q10
 cases lg with
 | true =>
  go_wp2_with fail
  refine (awake_any w1 (HTZ.out.ext HW0 B1)).mono ?_
  rintro e2 w2 ⟨rfl,hb2⟩
  go_wp2_with fail
  go_ret
  exact ⟨rfl,B1.trans (hb2.mono B1.size)⟩
 | false =>
  have HF:Hid (Few s):=larW_few hlg
  clear hlg hb1
  have HOWN:=Lib.hid (kOwnSwap_any ⟨a0,c0,a1,c1,a2,c2,a3,c3,a4,c4,a5,c5,a6,c6,a7,c7⟩ s w1 (HS.out.ext B1) HF.out)
  have zkS_:=kS.lt
  obtain ⟨q0,q1,q2,q3,q4,q5,q6,q7,q8,q9,q10⟩:=zc11 kS
  go_wp2_with fail
  refine HOWN.out.mono ?_
  rintro e2 w2 ⟨⟨i0,j0,i1,j1,i2,j2,i3,j3,i4,j4,i5,j5,i6,j6,i7,j7⟩,rfl,hI,hb2⟩
  have B2:=zbt B1 hb2
  replace kS:=kS.below_ hb2 kS.lt
  clear zkS_ q0 q1 q2 q3 q4 q5 q6 q7 q8 q9 q10
  unfold swV swC
  dsimp only
  go_upto_region 4 with fail
  obtain ⟨V2,hV⟩:∃ V,w2.alloc (.cells (zkx s i0 j0 i1 j1 i2 j2 i3 j3 i4 j4 i5 j5 i6 j6 i7 j7).toArray 35) = V:=⟨_,rfl⟩
  obtain ⟨BI,hBe⟩:∃ B,w2.heap.size = B:=⟨_,rfl⟩
  have kI:Blk V2 BI 35 (zkx s i0 j0 i1 j1 i2 j2 i3 j3 i4 j4 i5 j5 i6 j6 i7 j7).toArray:=by rw [← hV,← hBe];exact Blk.new_ rfl rfl
  have hbV:=zab hV
  replace kS:=kS.below_ hbV kS.lt
  have bw:=B2.trans (hbV.mono B2.size)
  have bv:Below V2.heap.size V2 V2:=Below.refl _ _
  have HI2:Hid (SwR V2 ⟨i0,j0,i1,j1,i2,j2,i3,j3,i4,j4,i5,j5,i6,j6,i7,j7⟩ s):=hI.ext hbV
  have lS:w.heap.size < V2.heap.size:=kS.lt
  have lI:BI < V2.heap.size:=kI.lt
  rw [hV,hBe]
  clear hV hBe hI hb2 hbV HOWN B1 B2 BX
  obtain ⟨⟨S1,er⟩,hS⟩:∃ q,redW s n f p = q:=⟨_,rfl⟩
  have HF1:Hid (Few S1):=by have:=redW_few HF.out n f p;rw [hS] at this;exact this
  have hW1:=ReadIn_any ⟨i0,j0,i1,j1,i2,j2,i3,j3,i4,j4,i5,j5,i6,j6,i7,j7⟩ s n f p V2 ⟨HI2.out.ext bv,HF.out,HWF.out⟩ (HTZ.out.ext HW0 bw)
  rw [hS] at hW1
  have HW1:=Lib.hid hW1
  have hW2:=fun W hw => rwReadIn_any ⟨a0,c0,a1,c1,a2,c2,a3,c3,a4,c4,a5,c5,a6,c6,a7,c7⟩ s n f p W hw HF.out
  rw [hS] at hW2
  have HW2:=Lib.hid hW2
  clear hW1 hW2 hS
  unfold swV swC at HW1 HW2
  have zkI_:=kI.lt
  obtain ⟨q0,q1,q2,q3,q4,q5,q6,q7,q8,q9,q10⟩:=zc11 kI
  go_wp2_with fail
  refine HW1.out.mono ?_
  rintro e3 w3 ⟨⟨m10,n10,m11,n11,m12,n12,m13,n13,m14,n14,m15,n15,m16,n16,m17,n17⟩,rfl,oa,hb3⟩
  clear zkI_ q0 q1 q2 q3 q4 q5 q6 q7 q8 q9 q10
  replace bw:=bw.trans (hb3.mono bw.size)
  replace bv:=bv.trans (hb3.mono bv.size)
  replace kS:=kS.below_ hb3 kS.lt
  replace kI:=kI.below_ hb3 kI.lt
  clear hb3 HW1
  unfold swV swC
  dsimp only
  go_upto_region 5 with fail
  have HA:Hid (SwO w3 0 ⟨m10,n10,m11,n11,m12,n12,m13,n13,m14,n14,m15,n15,m16,n16,m17,n17⟩ S1):=oa.base_ (Nat.zero_le _)
  clear oa
  have hsz:V2.heap.size ≤ w3.heap.size:=bv.size
  obtain ⟨U3,hV⟩:∃ V,w3.alloc (.cells (zkx S1 m10 n10 m11 n11 m12 n12 m13 n13 m14 n14 m15 n15 m16 n16 m17 n17).toArray 35) = V:=⟨_,rfl⟩
  obtain ⟨BA,hBe⟩:∃ B,w3.heap.size = B:=⟨_,rfl⟩
  have kA:Blk U3 BA 35 (zkx S1 m10 n10 m11 n11 m12 n12 m13 n13 m14 n14 m15 n15 m16 n16 m17 n17).toArray:=by rw [← hV,← hBe];exact Blk.new_ rfl rfl
  have hbV:=zab hV
  replace bw:=bw.trans (hbV.mono bw.size)
  replace bv:=bv.trans (hbV.mono bv.size)
  replace kS:=kS.below_ hbV kS.lt
  replace kI:=kI.below_ hbV kI.lt
  replace HA:=Lib.hid (HA.out.ext hbV)
  have lBA:V2.heap.size ≤ BA:=by rw [← hBe];exact hsz
  rw [hV,hBe]
  clear hV hBe hbV hsz
  have HW3:=Lib.hid (HW2.out U3 (HS.out.ext bw))
  have zkS_:=kS.lt
  obtain ⟨q0,q1,q2,q3,q4,q5,q6,q7,q8,q9,q10⟩:=zc11 kS
  go_wp2_with fail
  refine HW3.out.mono ?_
  rintro e4 w4 ⟨⟨u10,v10,u11,v11,u12,v12,u13,v13,u14,v14,u15,v15,u16,v16,u17,v17⟩,rfl,ob,hb4⟩
  clear zkS_ q0 q1 q2 q3 q4 q5 q6 q7 q8 q9 q10
  replace bw:=bw.trans (hb4.mono bw.size)
  replace bv:=bv.trans (hb4.mono bv.size)
  replace kS:=kS.below_ hb4 kS.lt
  replace kI:=kI.below_ hb4 kI.lt
  replace kA:=kA.below_ hb4 kA.lt
  replace HA:=Lib.hid (HA.out.ext hb4)
  clear hb4 HW2 HW3
  unfold swV swC
  dsimp only
  go_upto_region 6 with fail
  have HB:Hid (SwR w4 ⟨u10,v10,u11,v11,u12,v12,u13,v13,u14,v14,u15,v15,u16,v16,u17,v17⟩ S1):=ob
  clear ob
  have hsz:V2.heap.size ≤ w4.heap.size:=bv.size
  have kAz:=kA.lt
  obtain ⟨U4,hV⟩:∃ V,w4.alloc (.cells (zkx S1 u10 v10 u11 v11 u12 v12 u13 v13 u14 v14 u15 v15 u16 v16 u17 v17).toArray 35) = V:=⟨_,rfl⟩
  obtain ⟨BB,hBe⟩:∃ B,w4.heap.size = B:=⟨_,rfl⟩
  have kB:Blk U4 BB 35 (zkx S1 u10 v10 u11 v11 u12 v12 u13 v13 u14 v14 u15 v15 u16 v16 u17 v17).toArray:=by rw [← hV,← hBe];exact Blk.new_ rfl rfl
  have hbV:=zab hV
  replace bw:=bw.trans (hbV.mono bw.size)
  replace bv:=bv.trans (hbV.mono bv.size)
  replace kS:=kS.below_ hbV kS.lt
  replace kI:=kI.below_ hbV kI.lt
  replace kA:=kA.below_ hbV kA.lt
  replace HA:=Lib.hid (HA.out.ext hbV)
  replace HB:=Lib.hid (HB.out.ext hbV)
  have lBB:V2.heap.size ≤ BB:=by rw [← hBe];exact hsz
  have nBBkA:BA < BB:=by rw [← hBe];exact kAz
  rw [hV,hBe]
  clear hV hBe hbV hsz kAz
  have HSW:=Lib.hid (sameSwap_refl ⟨m10,n10,m11,n11,m12,n12,m13,n13,m14,n14,m15,n15,m16,n16,m17,n17⟩ ⟨u10,v10,u11,v11,u12,v12,u13,v13,u14,v14,u15,v15,u16,v16,u17,v17⟩ S1 U4 HA.out.sw HB.out HF1.out)
  unfold swV swC at HSW
  have zkA_:=kA.lt
  obtain ⟨qa0,qa1,qa2,qa3,qa4,qa5,qa6,qa7,qa8,qa9,qa10⟩:=zc11 kA
  have zkB_:=kB.lt
  obtain ⟨qb0,qb1,qb2,qb3,qb4,qb5,qb6,qb7,qb8,qb9,qb10⟩:=zc11 kB
  go_wp2_with fail
  refine HSW.out.mono ?_
  rintro e5 w5 ⟨rfl,hb5⟩
  clear zkA_ qa0 qa1 qa2 qa3 qa4 qa5 qa6 qa7 qa8 qa9 qa10
  clear zkB_ qb0 qb1 qb2 qb3 qb4 qb5 qb6 qb7 qb8 qb9 qb10
  replace bw:=bw.trans (hb5.mono bw.size)
  replace bv:=bv.trans (hb5.mono bv.size)
  replace kS:=kS.below_ hb5 kS.lt
  replace kI:=kI.below_ hb5 kI.lt
  replace kA:=kA.below_ hb5 kA.lt
  replace kB:=kB.below_ hb5 kB.lt
  clear hb5 HSW HA HB
  obtain ⟨⟨S2,ec⟩,hS⟩:∃ q,claW s n p = q:=⟨_,rfl⟩
  have HF2:Hid (Few S2):=by have:=claW_few HF.out n p;rw [hS] at this;exact this
  have hW1:=SwClaim_any ⟨i0,j0,i1,j1,i2,j2,i3,j3,i4,j4,i5,j5,i6,j6,i7,j7⟩ s n p w5 ⟨HI2.out.ext bv,HF.out,HWF.out⟩ (HTZ.out.ext HW0 bw)
  rw [hS] at hW1
  have HW1:=Lib.hid hW1
  have hW2:=fun W hw => rwClaim_any ⟨a0,c0,a1,c1,a2,c2,a3,c3,a4,c4,a5,c5,a6,c6,a7,c7⟩ s n p W hw HF.out
  rw [hS] at hW2
  have HW2:=Lib.hid hW2
  clear hW1 hW2 hS
  unfold swV swC at HW1 HW2
  have zkI_:=kI.lt
  obtain ⟨q0,q1,q2,q3,q4,q5,q6,q7,q8,q9,q10⟩:=zc11 kI
  go_wp2_with fail
  refine HW1.out.mono ?_
  rintro e6 w6 ⟨⟨m20,n20,m21,n21,m22,n22,m23,n23,m24,n24,m25,n25,m26,n26,m27,n27⟩,rfl,oa,hb6⟩
  clear zkI_ q0 q1 q2 q3 q4 q5 q6 q7 q8 q9 q10
  replace bw:=bw.trans (hb6.mono bw.size)
  replace bv:=bv.trans (hb6.mono bv.size)
  replace kS:=kS.below_ hb6 kS.lt
  replace kI:=kI.below_ hb6 kI.lt
  replace kA:=kA.below_ hb6 kA.lt
  replace kB:=kB.below_ hb6 kB.lt
  clear hb6 HW1
  unfold swV swC
  dsimp only
  obtain ⟨t0,t1,t2,t3,t4,t5,t6,t7,t8,t9,t10⟩:=zc11 kA
  obtain ⟨tf0,tf1,tf2,tf3,tf4,tf5,tf6,tf7,tf8,tf9,tf10,-⟩:=zf kA
  have zt:=kA.lt
  go_upto_region 9 with fail
  obtain ⟨U6,hU⟩:∃ U,setN w6 BA 0 (zkx S2 m20 n20 m21 n21 m22 n22 m23 n23 m24 n24 m25 n25 m26 n26 m27 n27) = U:=⟨_,rfl⟩
  have hUn:=zs11 hU
  have k_:=zsw hU kA
  replace kS:=(show Blk U6 _ _ _ from by rw [← hU];exact kS.kept (grown_setN _ _ _ _) (by simp;omega))
  replace kI:=(show Blk U6 _ _ _ from by rw [← hU];exact kI.kept (grown_setN _ _ _ _) (by simp;omega))
  replace kB:=(show Blk U6 _ _ _ from by rw [← hU];exact kB.kept (grown_setN _ _ _ _) (by simp;omega))
  have HA:Hid (SwO U6 0 ⟨m20,n20,m21,n21,m22,n22,m23,n23,m24,n24,m25,n25,m26,n26,m27,n27⟩ S2):=by show SwO _ _ _ _;rw [← hU];exact SwO.farO (oa.base_ (Nat.zero_le _)) kA _
  replace bw:Below w.heap.size w U6:=by rw [← hU];exact below_setN bw (by omega) _
  replace bv:Below V2.heap.size V2 U6:=by rw [← hU];exact below_setN bv lBA _
  rw [hUn]
  clear hUn hU zt kA t0 tf0 t1 tf1 t2 tf2 t3 tf3 t4 tf4 t5 tf5 t6 tf6 t7 tf7 t8 tf8 t9 tf9 t10 tf10
  have kA:=k_
  clear k_
  clear oa
  have HW3:=Lib.hid (HW2.out U6 (HS.out.ext bw))
  have zkS_:=kS.lt
  obtain ⟨q0,q1,q2,q3,q4,q5,q6,q7,q8,q9,q10⟩:=zc11 kS
  go_wp2_with fail
  refine HW3.out.mono ?_
  rintro e7 w7 ⟨⟨u20,v20,u21,v21,u22,v22,u23,v23,u24,v24,u25,v25,u26,v26,u27,v27⟩,rfl,ob,hb7⟩
  clear zkS_ q0 q1 q2 q3 q4 q5 q6 q7 q8 q9 q10
  replace bw:=bw.trans (hb7.mono bw.size)
  replace bv:=bv.trans (hb7.mono bv.size)
  replace kS:=kS.below_ hb7 kS.lt
  replace kI:=kI.below_ hb7 kI.lt
  replace kA:=kA.below_ hb7 kA.lt
  replace kB:=kB.below_ hb7 kB.lt
  replace HA:=Lib.hid (HA.out.ext hb7)
  clear hb7 HW2 HW3
  unfold swV swC
  dsimp only
  obtain ⟨t0,t1,t2,t3,t4,t5,t6,t7,t8,t9,t10⟩:=zc11 kB
  obtain ⟨tf0,tf1,tf2,tf3,tf4,tf5,tf6,tf7,tf8,tf9,tf10,-⟩:=zf kB
  have zt:=kB.lt
  go_upto_region 10 with fail
  obtain ⟨U7,hU⟩:∃ U,setN w7 BB 0 (zkx S2 u20 v20 u21 v21 u22 v22 u23 v23 u24 v24 u25 v25 u26 v26 u27 v27) = U:=⟨_,rfl⟩
  have hUn:=zs11 hU
  have k_:=zsw hU kB
  replace kS:=(show Blk U7 _ _ _ from by rw [← hU];exact kS.kept (grown_setN _ _ _ _) (by simp;omega))
  replace kI:=(show Blk U7 _ _ _ from by rw [← hU];exact kI.kept (grown_setN _ _ _ _) (by simp;omega))
  replace kA:=(show Blk U7 _ _ _ from by rw [← hU];exact kA.kept (grown_setN _ _ _ _) (by simp;omega))
  have HB:Hid (SwO U7 0 ⟨u20,v20,u21,v21,u22,v22,u23,v23,u24,v24,u25,v25,u26,v26,u27,v27⟩ S2):=by show SwO _ _ _ _;rw [← hU];exact SwO.farO ob kB _
  replace HA:Hid (SwO U7 0 ⟨m20,n20,m21,n21,m22,n22,m23,n23,m24,n24,m25,n25,m26,n26,m27,n27⟩ S2):=by show SwO _ _ _ _;rw [← hU];exact SwO.farO HA.out kB _
  replace bw:Below w.heap.size w U7:=by rw [← hU];exact below_setN bw (by omega) _
  replace bv:Below V2.heap.size V2 U7:=by rw [← hU];exact below_setN bv lBB _
  rw [hUn]
  clear hUn hU zt kB t0 tf0 t1 tf1 t2 tf2 t3 tf3 t4 tf4 t5 tf5 t6 tf6 t7 tf7 t8 tf8 t9 tf9 t10 tf10
  have kB:=k_
  clear k_
  clear ob
  have HSW:=Lib.hid (sameSwap_refl ⟨m20,n20,m21,n21,m22,n22,m23,n23,m24,n24,m25,n25,m26,n26,m27,n27⟩ ⟨u20,v20,u21,v21,u22,v22,u23,v23,u24,v24,u25,v25,u26,v26,u27,v27⟩ S2 U7 HA.out.sw HB.out.sw HF2.out)
  unfold swV swC at HSW
  have zkA_:=kA.lt
  obtain ⟨qa0,qa1,qa2,qa3,qa4,qa5,qa6,qa7,qa8,qa9,qa10⟩:=zc11 kA
  have zkB_:=kB.lt
  obtain ⟨qb0,qb1,qb2,qb3,qb4,qb5,qb6,qb7,qb8,qb9,qb10⟩:=zc11 kB
  go_wp2_with fail
  refine HSW.out.mono ?_
  rintro e8 w8 ⟨rfl,hb8⟩
  clear zkA_ qa0 qa1 qa2 qa3 qa4 qa5 qa6 qa7 qa8 qa9 qa10
  clear zkB_ qb0 qb1 qb2 qb3 qb4 qb5 qb6 qb7 qb8 qb9 qb10
  replace bw:=bw.trans (hb8.mono bw.size)
  replace bv:=bv.trans (hb8.mono bv.size)
  replace kS:=kS.below_ hb8 kS.lt
  replace kI:=kI.below_ hb8 kI.lt
  replace kA:=kA.below_ hb8 kA.lt
  replace kB:=kB.below_ hb8 kB.lt
  clear hb8 HSW HA HB
  obtain ⟨⟨S3,ki,ek⟩,hS⟩:∃ q,kilW s p = q:=⟨_,rfl⟩
  have HF3:Hid (Few S3):=by have:=kilW_few HF.out p;rw [hS] at this;exact this
  have hW1:=Kill_any ⟨i0,j0,i1,j1,i2,j2,i3,j3,i4,j4,i5,j5,i6,j6,i7,j7⟩ s p w8 ⟨HI2.out.ext bv,HF.out,HWF.out⟩ (HTZ.out.ext HW0 bw)
  rw [hS] at hW1
  have HW1:=Lib.hid hW1
  have hW2:=fun W hw => rwKill_any ⟨a0,c0,a1,c1,a2,c2,a3,c3,a4,c4,a5,c5,a6,c6,a7,c7⟩ s p W hw HF.out
  rw [hS] at hW2
  have HW2:=Lib.hid hW2
  clear hW1 hW2 hS
  unfold swV swC at HW1 HW2
  have zkI_:=kI.lt
  obtain ⟨q0,q1,q2,q3,q4,q5,q6,q7,q8,q9,q10⟩:=zc11 kI
  go_wp2_with fail
  refine HW1.out.mono ?_
  rintro e9 w9 ⟨⟨m30,n30,m31,n31,m32,n32,m33,n33,m34,n34,m35,n35,m36,n36,m37,n37⟩,rfl,oa,hb9⟩
  clear zkI_ q0 q1 q2 q3 q4 q5 q6 q7 q8 q9 q10
  replace bw:=bw.trans (hb9.mono bw.size)
  replace bv:=bv.trans (hb9.mono bv.size)
  replace kS:=kS.below_ hb9 kS.lt
  replace kI:=kI.below_ hb9 kI.lt
  replace kA:=kA.below_ hb9 kA.lt
  replace kB:=kB.below_ hb9 kB.lt
  clear hb9 HW1
  unfold swV swC
  dsimp only
  obtain ⟨t0,t1,t2,t3,t4,t5,t6,t7,t8,t9,t10⟩:=zc11 kA
  obtain ⟨tf0,tf1,tf2,tf3,tf4,tf5,tf6,tf7,tf8,tf9,tf10,-⟩:=zf kA
  have zt:=kA.lt
  go_upto_region 13 with fail
  obtain ⟨U9,hU⟩:∃ U,setN w9 BA 0 (zkx S3 m30 n30 m31 n31 m32 n32 m33 n33 m34 n34 m35 n35 m36 n36 m37 n37) = U:=⟨_,rfl⟩
  have hUn:=zs11 hU
  have k_:=zsw hU kA
  replace kS:=(show Blk U9 _ _ _ from by rw [← hU];exact kS.kept (grown_setN _ _ _ _) (by simp;omega))
  replace kI:=(show Blk U9 _ _ _ from by rw [← hU];exact kI.kept (grown_setN _ _ _ _) (by simp;omega))
  replace kB:=(show Blk U9 _ _ _ from by rw [← hU];exact kB.kept (grown_setN _ _ _ _) (by simp;omega))
  have HA:Hid (SwO U9 0 ⟨m30,n30,m31,n31,m32,n32,m33,n33,m34,n34,m35,n35,m36,n36,m37,n37⟩ S3):=by show SwO _ _ _ _;rw [← hU];exact SwO.farO (oa.base_ (Nat.zero_le _)) kA _
  replace bw:Below w.heap.size w U9:=by rw [← hU];exact below_setN bw (by omega) _
  replace bv:Below V2.heap.size V2 U9:=by rw [← hU];exact below_setN bv lBA _
  rw [hUn]
  clear hUn hU zt kA t0 tf0 t1 tf1 t2 tf2 t3 tf3 t4 tf4 t5 tf5 t6 tf6 t7 tf7 t8 tf8 t9 tf9 t10 tf10
  have kA:=k_
  clear k_
  clear oa
  have HW3:=Lib.hid (HW2.out U9 (HS.out.ext bw))
  have zkS_:=kS.lt
  obtain ⟨q0,q1,q2,q3,q4,q5,q6,q7,q8,q9,q10⟩:=zc11 kS
  go_wp2_with fail
  refine HW3.out.mono ?_
  rintro e10 w10 ⟨⟨u30,v30,u31,v31,u32,v32,u33,v33,u34,v34,u35,v35,u36,v36,u37,v37⟩,rfl,ob,hb10⟩
  clear zkS_ q0 q1 q2 q3 q4 q5 q6 q7 q8 q9 q10
  replace bw:=bw.trans (hb10.mono bw.size)
  replace bv:=bv.trans (hb10.mono bv.size)
  replace kS:=kS.below_ hb10 kS.lt
  replace kI:=kI.below_ hb10 kI.lt
  replace kA:=kA.below_ hb10 kA.lt
  replace kB:=kB.below_ hb10 kB.lt
  replace HA:=Lib.hid (HA.out.ext hb10)
  clear hb10 HW2 HW3
  unfold swV swC
  dsimp only
  obtain ⟨t0,t1,t2,t3,t4,t5,t6,t7,t8,t9,t10⟩:=zc11 kB
  obtain ⟨tf0,tf1,tf2,tf3,tf4,tf5,tf6,tf7,tf8,tf9,tf10,-⟩:=zf kB
  have zt:=kB.lt
  go_upto_region 14 with fail
  obtain ⟨U10,hU⟩:∃ U,setN w10 BB 0 (zkx S3 u30 v30 u31 v31 u32 v32 u33 v33 u34 v34 u35 v35 u36 v36 u37 v37) = U:=⟨_,rfl⟩
  have hUn:=zs11 hU
  have k_:=zsw hU kB
  replace kS:=(show Blk U10 _ _ _ from by rw [← hU];exact kS.kept (grown_setN _ _ _ _) (by simp;omega))
  replace kI:=(show Blk U10 _ _ _ from by rw [← hU];exact kI.kept (grown_setN _ _ _ _) (by simp;omega))
  replace kA:=(show Blk U10 _ _ _ from by rw [← hU];exact kA.kept (grown_setN _ _ _ _) (by simp;omega))
  have HB:Hid (SwO U10 0 ⟨u30,v30,u31,v31,u32,v32,u33,v33,u34,v34,u35,v35,u36,v36,u37,v37⟩ S3):=by show SwO _ _ _ _;rw [← hU];exact SwO.farO ob kB _
  replace HA:Hid (SwO U10 0 ⟨m30,n30,m31,n31,m32,n32,m33,n33,m34,n34,m35,n35,m36,n36,m37,n37⟩ S3):=by show SwO _ _ _ _;rw [← hU];exact SwO.farO HA.out kB _
  replace bw:Below w.heap.size w U10:=by rw [← hU];exact below_setN bw (by omega) _
  replace bv:Below V2.heap.size V2 U10:=by rw [← hU];exact below_setN bv lBB _
  rw [hUn]
  clear hUn hU zt kB t0 tf0 t1 tf1 t2 tf2 t3 tf3 t4 tf4 t5 tf5 t6 tf6 t7 tf7 t8 tf8 t9 tf9 t10 tf10
  have kB:=k_
  clear k_
  clear ob
  have HSW:=Lib.hid (sameSwap_refl ⟨m30,n30,m31,n31,m32,n32,m33,n33,m34,n34,m35,n35,m36,n36,m37,n37⟩ ⟨u30,v30,u31,v31,u32,v32,u33,v33,u34,v34,u35,v35,u36,v36,u37,v37⟩ S3 U10 HA.out.sw HB.out.sw HF3.out)
  unfold swV swC at HSW
  have zkA_:=kA.lt
  obtain ⟨qa0,qa1,qa2,qa3,qa4,qa5,qa6,qa7,qa8,qa9,qa10⟩:=zc11 kA
  have zkB_:=kB.lt
  obtain ⟨qb0,qb1,qb2,qb3,qb4,qb5,qb6,qb7,qb8,qb9,qb10⟩:=zc11 kB
  go_wp2_with fail
  refine HSW.out.mono ?_
  rintro e11 w11 ⟨rfl,hb11⟩
  clear zkA_ qa0 qa1 qa2 qa3 qa4 qa5 qa6 qa7 qa8 qa9 qa10
  clear zkB_ qb0 qb1 qb2 qb3 qb4 qb5 qb6 qb7 qb8 qb9 qb10
  replace bw:=bw.trans (hb11.mono bw.size)
  replace bv:=bv.trans (hb11.mono bv.size)
  replace kS:=kS.below_ hb11 kS.lt
  replace kI:=kI.below_ hb11 kI.lt
  replace kA:=kA.below_ hb11 kA.lt
  replace kB:=kB.below_ hb11 kB.lt
  clear hb11 HSW HA HB
  have HSS:=Lib.hid (sameSwap_refl ⟨i0,j0,i1,j1,i2,j2,i3,j3,i4,j4,i5,j5,i6,j6,i7,j7⟩ ⟨a0,c0,a1,c1,a2,c2,a3,c3,a4,c4,a5,c5,a6,c6,a7,c7⟩ s w11 (HI2.out.ext bv) (HS.out.ext bw) HF.out)
  unfold swV swC at HSS
  have zkI_:=kI.lt
  obtain ⟨qa0,qa1,qa2,qa3,qa4,qa5,qa6,qa7,qa8,qa9,qa10⟩:=zc11 kI
  have zkS_:=kS.lt
  obtain ⟨qb0,qb1,qb2,qb3,qb4,qb5,qb6,qb7,qb8,qb9,qb10⟩:=zc11 kS
  go_wp2_with fail
  refine HSS.out.mono ?_
  rintro e12 w12 ⟨rfl,hb12⟩
  replace bw:=bw.trans (hb12.mono bw.size)
  go_wp2_with fail
  refine (awake_any w12 (HTZ.out.ext HW0 bw)).mono ?_
  rintro e13 w13 ⟨rfl,hb13⟩
  go_wp2_with fail
  go_ret
  exact ⟨rfl,bw.trans (hb13.mono bw.size)⟩
end Go.Proofs.YthijbipidbjpfaaGreatDoor
namespace Go.Proofs.YthijbipidbjpfaaGreatDoor
open Go.RowKit Go.Maps
open Go.ChangeShapes Go.WideShapes Go.ChangeAt
theorem own:ownKnob Tryz.prog.godebug = none:=by kernel_rfl
theorem laidOut:laidOutB Tryz.prog = true:=by kernel_rfl
section
variable {H : Type} {enc : TypeId × Value → H} {P : Program}
theorem trodAll_below (hl:laidOutB P = true) {W W':World} (hb:Below W.heap.size W W'):∀ (ts:List TypeId) (vs:List Value) (ds:List (DataW H)) (ps:List MemPlace),
  (∀ t ∈ ts,P.readableRec t = true∧t < P.types.size)→(∀ x ∈ ps,x.block < W.heap.size)→DataW.TrodAll enc P W 0 (fun _ => true) true ts vs ds ps →
  DataW.TrodAll enc P W' 0 (fun b => decide (b < W.heap.size)) true ts vs ds ps
 | [],[],[],ps,_,_,h => h
 | [],_ :: _,_,_,_,_,h => by simp [DataW.TrodAll] at h
 | [],[],_ :: _,_,_,_,h => by simp [DataW.TrodAll] at h
 | _ :: _,[],_,_,_,_,h => by simp [DataW.TrodAll] at h
 | _ :: _,_ :: _,[],_,_,_,h => by simp [DataW.TrodAll] at h
 | t :: ts,v :: vs,d :: ds,ps,hr,hlt,h => by
  obtain ⟨p,q,h1,h2,rfl⟩:=h
  exact ⟨p,q,Below.trod hl (hr t (by simp)).1 (hr t (by simp)).2 h1 hb (fun x hx => hlt x (by simp [hx])),trodAll_below hl hb ts vs ds q (fun t ht => hr t (by simp [ht])) (fun x hx => hlt x (by simp [hx])) h2,rfl⟩
theorem law_post (hl:laidOutB P = true) {f:Func} {s:ChangeSpec} {B:TypeId} (hvars:s.vars = []) (hrt:f.resultTypes = #[B]) (hB:P.underlying B = some .bool) {W W':World} {args:Array Value} {ds gs:List (DataW H)} {before:List MemPlace}
  (hr:∀ t ∈ f.params.toList,P.readableRec t = true∧t < P.types.size)
  (hW:DataW.Whole enc P f.params.toList s.vars false W args.toList ds gs before) (hs:s.fn H (ds ++ gs) = { results:=[.lit (.bool true)],args:=ds }) (hb:Below W.heap.size W W') :
  s.post enc P f false true false false W args (.bool true) W':=by
 have hlt:∀ p ∈ before,p.block < W.heap.size:=fun p hp => hW.lt p hp
 have hW0:=hW
 obtain ⟨p,q,hA,hV,rfl,_,_⟩:=hW0
 rw [hvars] at hV
 obtain ⟨rfl,rfl⟩:=trodVars_none hV
 refine ⟨ds,[],p ++ [],[],p,[],hW,?_,?_,?_,World.keptBut_mono (fun x hx => ⟨hx,.inr (.inl (by simpa using hx))⟩) (hb.frame (· ∈ p ++ [])),fun h => by cases h⟩
 ·rw [hs,hrt]
  exact trodAll_cons_mk (shut_bool hB _) trodAll_mk0
 ·rw [hs]
  exact trodAll_below hl hb _ _ _ _ hr (fun x hx => hlt x (by simpa using hx)) hA
 ·rw [hvars,hs]
  rfl
end
section
variable {H : Type} {enc : TypeId × Value → H} {P : Program} {W : World}
end
def laidV {H : Type} : List (String × DataW H) := [("math/bits.deBruijn64tab", Rows.laid_math_bits_deBruijn64tab)]
theorem gTab : Tryz.prog.globalNamed "math/bits.deBruijn64tab" = some 0 := by kernel_rfl
theorem tTab:(Tryz.prog.globals[0]?).map (·.type) = some 239:=by kernel_rfl
theorem cells1:Tryz.prog.cellsOf 5 = 1:=by kernel_rfl
theorem door_met (os:Os) (args:Array Value):laidMetH Tryz.prog laidV ((World.doorLaid Tryz.prog 400 os).forCall (fun _ _ => 0) ⟨#[],args,[]⟩).memory:=
 laidMetH_of_parts3 (fuel:=8) (laidMet_of_run' 8 (by kernel_rfl) (by kernel_rfl)) (by kernel_rfl) (by kernel_rfl)
theorem tab_list {H:Type}:(Rows.laid_math_bits_deBruijn64tab:DataW H) = .agg (Lib.deBruijn64tab.map fun (n:Nat) => .lit (.int .u8 (n:Int))):=rfl
theorem tab_len:Lib.deBruijn64tab.length = 64:=by decide
theorem of_laid {W:World} (h:laidMetH Tryz.prog laidV W):TZ W:=by
 rw [MakeChecks.laidMetH_plain _ _ _ (by kernel_rfl)] at h;obtain ⟨ps,⟨g0,t0,cs0,f0,p0,q0,hg0,ht0,hv0,hd0,_,_⟩,_,_⟩:=h;obtain rfl:=Option.some.inj (gTab.symm.trans hg0);obtain rfl:=Option.some.inj (tTab.symm.trans ht0);obtain ⟨xs,m,rfl,hx,hlen,hn,hel⟩:=DataW.trod_array Tryz.underlying239 hd0;rw [cells1] at hel;rw [tab_list] at hx;simp only [Prod.mk.injEq,DataW.agg.injEq] at hx;intro j hj;rw [tab_len] at hj;have h1:=hel j hj
 have hL:(xs.map (·.1))[j]? = some (.lit (.int .u8 ((Lib.deBruijn64tab.getD j 0:Nat):Int))):=by
  rw [← hx.1,List.getElem?_map,List.getD_eq_getElem?_getD,List.getElem?_eq_getElem (by rw [tab_len];exact hj)];rfl
 rw [List.getElem?_map,Option.map_eq_some_iff] at hL;obtain ⟨x,hxi,hxa⟩:=hL;rw [hxi] at h1;obtain ⟨k0,e0,f0,_⟩:=DataW.trod_int Tryz.underlying5 (show _ = some x from h1);rw [f0] at hxa;simp at hxa;subst hxa;have v0:=World.var?_cell hg0 hv0 j
 have q0:((cs0.toList.drop j).take 1)[0]? = some (.int .u8 ((Lib.deBruijn64tab.getD j 0:Nat):Int)):=by
  have e1:=e0;rw [Nat.mul_one] at e1;rw [e1];rfl
 rw [List.getElem?_take_of_lt (by omega),List.getElem?_drop,Nat.add_zero,Array.getElem?_toList] at q0;exact v0.trans q0
end Go.Proofs.YthijbipidbjpfaaGreatDoor
namespace Go.Proofs.YthijbipidbjpfaaGreatDoor
open Go.RowKit Go.Maps
open Go.ChangeShapes Go.WideShapes Go.ChangeAt Go.Joins Go.Deep
section
variable {H : Type} {enc : TypeId × Value → H} {P : Program} {W : World} {α : Type}
theorem flatR_inv (E:Elt P α):∀ (l:List α) (j:Nat) (u:Value),(E.flat l)[j]? = some u→∃ k m x,l[k]? = some x∧(E.enc x)[m]? = some u∧j = k * E.sz + m
 | [],j,u,h => by simp [Elt.flat] at h
 | y :: l,j,u,h => by
  have e:E.flat (y :: l) = E.enc y ++ E.flat l:=rfl
  rw [e] at h
  by_cases hj:j < E.sz
  ·rw [List.getElem?_append_left (by rw [E.hlen];exact hj)] at h
   exact ⟨0,j,y,rfl,h,by omega⟩
  ·rw [List.getElem?_append_right (by rw [E.hlen];omega),E.hlen] at h
   obtain ⟨k,m,x,h1,h2,h3⟩:=flatR_inv E l _ u h
   exact ⟨k + 1,m,x,h1,h2,by rw [Nat.succ_mul];omega⟩
theorem SR.of_at {E:Elt P α} {b off:Nat} {l:List α} (hb:0 < l.length→b < W.heap.size) (h:∀ i x,l[i]? = some x→∀ (j:Nat) u,(E.enc x)[j]? = some u→W.cell? ⟨b,off + i * E.sz + j,none⟩ = some u):SR E W (some ⟨b,off,none⟩) l:=fun hp => by
 refine ⟨b,off,rfl,hb (by rw [E.flat_length] at hp;exact Nat.pos_of_mul_pos_right hp),fun j u hu => ?_⟩;obtain ⟨k,m,x,h1,h2,rfl⟩:=flatR_inv E l j u hu;rw [← Nat.add_assoc];exact h k x h1 m u h2
end
end Go.Proofs.YthijbipidbjpfaaGreatDoor
