import Derived.Test.YthijbipidbjpfaaGreatDoorZP11
import Derived.Deep.CutBlock
import Derived.Deep.DeepCutAuto
import Derived.Deep.RegionHeld3
import Derived.Test.YthijbipidbjpfaaGreatDoorZP00
import Derived.Test.YthijbipidbjpfaaGreatDoorZP03
import Derived.Test.YthijbipidbjpfaaGreatDoorZP06
set_option linter.unusedSimpArgs false
set_option linter.unusedVariables false
set_option maxRecDepth 100000
set_option maxHeartbeats 8000000
namespace Go.Proofs.YthijbipidbjpfaaGreatDoor
open Go.RowKit Go.Maps
def jkey(k:Bool × Int)(j:Jb):Bool:=decide ((if k.1 then j.frame else j.slot)=k.2)
def hasK(js:List Jb)(k:Bool × Int):Bool:=js.any (jkey k)
theorem hit_has(pre:List Jb)(a b:Int):hitD pre a b=(hasK pre (false,a) || hasK pre (true,b)):=by
 unfold hitD hasK
 induction pre with
 | nil=>rfl
 | cons j l ih=>
  simp only[List.any_cons,ih];unfold jkey;simp only[Bool.false_eq_true,if_false,if_true]
  by_cases h1:j.slot=a <;> by_cases h2:j.frame=b <;> simp[h1,h2]
def takM(js:List Jb):Bool × Int→Option Bool:=fun k=>if hasK js k then some true else none
theorem takM_add(js:List Jb)(j:Jb):takM (js++[j])=fun k=>if k=(true,j.frame) then some true else (if k=(false,j.slot) then some true else takM js k):=by
 funext ⟨f,n⟩
 unfold takM hasK;rw[List.any_append]
 cases f
 ·rw[if_neg (show ¬((false,n)=(true,j.frame)) by simp)]
  by_cases e:n=j.slot
  ·subst e
   rw[if_pos rfl,if_pos (by simp[jkey])]
  ·rw[if_neg (show ¬((false,n)=(false,j.slot)) by simpa using e)]
   have h1:¬ j.slot=n:=fun h=>e h.symm
   have h2:[j].any (jkey (false,n))=false:=by simp[jkey,h1]
   rw[h2,Bool.or_false]
 ·by_cases e:n=j.frame
  ·subst e
   rw[if_pos rfl,if_pos (by simp[jkey])]
  ·rw[if_neg (show ¬((true,n)=(true,j.frame)) by simpa using e),if_neg (show ¬((true,n)=(false,j.slot)) by simp)]
   have h1:¬ j.frame=n:=fun h=>e h.symm
   have h2:[j].any (jkey (true,n))=false:=by simp[jkey,h1]
   rw[h2,Bool.or_false]
theorem chkDG_at{dk:Dsk}{l:List Jb}{k:Nat}{x:Jb}(h:l[k]? = some x) :
  chkDG dk (l.take k) (l.drop k)=if !inD dk x.slot x.frame then (2,k) else if hitD (l.take k) x.slot x.frame then (10,k) else if !x.wr && !decide (x.data=Ct.zero) then (3,k) else chkDG dk (l.take (k+1)) (l.drop (k+1)):=by
 obtain⟨hk,rfl⟩:=List.getElem?_eq_some_iff.1 h;rw[List.drop_eq_getElem_cons hk,chkDG,List.take_succ_eq_append_getElem hk];have:(l.take k).length=k:=by simp;omega
 rw[this]
theorem takT_look{w:World}{B n:Nat}{js:List Jb}(h:MapT takT w B n (takM js))(f:Bool)(x:Int)(hx:(Lit.int .i64 x).wf=true){v:Bool}(hv:hasK js (f,x)=v) :
  (Instr.lookup 155 (.map (some B)) (.agg #[.bool f,.int .i64 x]) false).run Tryz.prog w=.ok (.bool v) w:=
 h.look_ (k:=(f,x)) hx (by unfold takM;rw[hv];cases v <;> rfl)
theorem dCheck_any(A B:Option Addr)(c d:Nat)(k0:Dsk)(w:World)(hb:SR jbE w B k0.jobs)(la:k0.cells.length≤1000)(lb:k0.jobs.length≤1000){z:Int}{n0:Nat}(h:chkD k0=(z,n0)) :
  Calls Tryz.prog 61 #[dkV A c B d k0] w fun e w'=>e=.returned (.tuple #[.int .i64 z,.int .i64 n0])∧Below w.heap.size w w':=by
 obtain⟨n,hn⟩:∃ n,k0.cells.length=n:=⟨_,rfl⟩;obtain⟨m,hm⟩:∃ m,k0.jobs.length=m:=⟨_,rfl⟩;obtain⟨room,hr⟩:∃ room,k0.room=room:=⟨_,rfl⟩;unfold dkV;unfold chkD at h;rw[hn,hm,hr] at h ⊢;have HB:=Lib.hid hb;have HN:=Lib.hid hn;have HM:=Lib.hid hm;rw[hn] at la;rw[hm] at lb;clear hb hn hm hr
 by_cases h1:n<1∨256<n∨room<1∨32<room
 ·rw[if_pos h1] at h
  cases h
  rcases (by omega:n<1∨(1≤n∧256<n)∨(1≤n∧n≤256∧room<1)∨(1≤n∧n≤256∧1≤room∧32<room)) with h1 | h1 | h1 | h1
  ·have g1:decide ((n:Int)<1)=true:=by simp;omega
   clear h1
   go_enter Tryz.func61,Tryz.ntmps61
   go_wp2_with fail;refine bodyPost_ret (by simp[results,Tryz.results61,go_sem] <;> rfl) rfl ?_;exact⟨rfl,zbl⟩
  ·have g1:decide ((n:Int)<1)=false:=by simp;omega
   have g2:decide ((n:Int)>256)=true:=by simp;omega
   clear h1
   go_enter Tryz.func61,Tryz.ntmps61
   go_wp2_with fail;refine bodyPost_ret (by simp[results,Tryz.results61,go_sem] <;> rfl) rfl ?_;exact⟨rfl,zbl⟩
  ·have g1:decide ((n:Int)<1)=false:=by simp;omega
   have g2:decide ((n:Int)>256)=false:=by simp;omega
   have g3:decide (room<1)=true:=by simp;omega
   clear h1
   go_enter Tryz.func61,Tryz.ntmps61
   go_wp2_with fail;refine bodyPost_ret (by simp[results,Tryz.results61,go_sem] <;> rfl) rfl ?_;exact⟨rfl,zbl⟩
  ·have g1:decide ((n:Int)<1)=false:=by simp;omega
   have g2:decide ((n:Int)>256)=false:=by simp;omega
   have g3:decide (room<1)=false:=by simp;omega
   have g4:decide (room>32)=true:=by simp;omega
   clear h1
   go_enter Tryz.func61,Tryz.ntmps61
   go_wp2_with fail;refine bodyPost_ret (by simp[results,Tryz.results61,go_sem] <;> rfl) rfl ?_;exact⟨rfl,zbl⟩
 ·rw[if_neg h1] at h
  have g1:decide ((n:Int)<1)=false:=by simp;omega
  have g2:decide ((n:Int)>256)=false:=by simp;omega
  have g3:decide (room<1)=false:=by simp;omega
  have g4:decide (room>32)=false:=by simp;omega
  by_cases h2:room<m
  ·rw[if_pos h2] at h
   cases h
   have g5:decide ((m:Int)>room)=true:=by simpa using h2
   go_enter Tryz.func61,Tryz.ntmps61
   go_wp2_with fail;refine bodyPost_ret (by simp[results,Tryz.results61,go_sem] <;> rfl) rfl ?_;exact⟨rfl,zbl⟩
  ·rw[if_neg h2] at h
   have g5:decide ((m:Int)>room)=false:=by simp;omega
   have HH:Hid (chkDG k0 (k0.jobs.take 0) (k0.jobs.drop 0)=(z,n0)):=by show _=_;simpa using h
   have hm32:m≤32:=by omega
   have hmm:=@run_makeMap Tryz.prog;clear h h1 h2
   go_enter Tryz.func61,Tryz.ntmps61
   go_wp2_with fail;obtain⟨V,hV⟩:∃ V,(w.alloc (.cells #[.slice A n c,.slice B m d,.int .i64 room] 31)).alloc (.map #[] 0)=V:=⟨_,rfl⟩;have kD:Blk V w.heap.size 31 #[.slice A n c,.slice B m d,.int .i64 room]:=by rw[←hV];exact zbk
   have hMp:MapT takT V (w.heap.size+1) 0 (takM (k0.jobs.take 0)):=by
    have h:=MapT.new_ (T:=takT) (w.alloc (.cells #[.slice A n c,.slice B m d,.int .i64 room] 31));rw[hV] at h
    have e:takM (k0.jobs.take 0)=fun _=>none:=by funext k;simp[takM,hasK]
    rw[e];simpa using h
   have BV:Below w.heap.size w V:=by rw[←hV];exact zbl
   rw[hV];clear hV
   go_loopw [40] (fun i wr=>∃ k cnt:Nat,k≤m∧i=.int .i64 k∧Blk wr w.heap.size 31 #[.slice A n c,.slice B m d,.int .i64 room]∧Hid (MapT takT wr (w.heap.size+1) cnt (takM (k0.jobs.take k)))∧cnt≤2*k∧Hid (chkDG k0 (k0.jobs.take k) (k0.jobs.drop k)=(z,n0))∧Below w.heap.size w wr) (fun i _=>m - (intOf i).toNat)
   case atStart=>exact⟨0,0,by omega,rfl,kD,hMp,by omega,HH.out,BV⟩
   case round=>
    clear kD hMp BV;obtain⟨k,cnt,hk,rfl,kD,HMP,hcn,HR,hb⟩:=hrel;obtain⟨q0,q1,q2⟩:=zc3 kD;have zD:=kD.lt
    by_cases hlt:k<m
    ·have i1:(k:Int)<m:=by omega
     obtain⟨b,off,x,rfl,hbl,hx,hc⟩:=(HB.out.ext hb).at_ (k:=k) (by rw[HM.out];exact hlt);have hcc:=HR.out;rw[chkDG_at hx] at hcc;have HX:=Lib.hid hx;have HC:=Lib.hid hcc;clear hx hcc HR;obtain⟨jw,js,jf,⟨c0,c1,c2,c3,c4,c5,c6,c7⟩⟩:=x;have e0:wr.cell? ⟨b,off+k*11,none⟩=some (.bool jw):=hc 0 _ rfl;have e1:wr.cell? ⟨b,off+k*11+1,none⟩=some (.int .i64 js):=hc 1 _ rfl;have e2:wr.cell? ⟨b,off+k*11+2,none⟩=some (.int .i64 jf):=hc 2 _ rfl;have e3:wr.cell? ⟨b,off+k*11+3,none⟩=some (.int .u64 c0):=hc 3 _ rfl;have e4:wr.cell? ⟨b,off+k*11+4,none⟩=some (.int .u64 c1):=hc 4 _ rfl;have e5:wr.cell? ⟨b,off+k*11+5,none⟩=some (.int .u64 c2):=hc 5 _ rfl;have e6:wr.cell? ⟨b,off+k*11+6,none⟩=some (.int .u64 c3):=hc 6 _ rfl;have e7:wr.cell? ⟨b,off+k*11+7,none⟩=some (.int .u64 c4):=hc 7 _ rfl;have e8:wr.cell? ⟨b,off+k*11+8,none⟩=some (.int .u64 c5):=hc 8 _ rfl;have e9:wr.cell? ⟨b,off+k*11+9,none⟩=some (.int .u64 c6):=hc 9 _ rfl;have e10:wr.cell? ⟨b,off+k*11+10,none⟩=some (.int .u64 c7):=hc 10 _ rfl;have kJ:Blk (wr.alloc (.cells (zkj jw js jf c0 c1 c2 c3 c4 c5 c6 c7).toArray 115)) wr.heap.size 115 (zkj jw js jf c0 c1 c2 c3 c4 c5 c6 c7).toArray:=Blk.new_ rfl rfl;go_upto_region 9 with fail;obtain⟨V6,hV6⟩:∃ V6,wr.alloc (.cells (zkj jw js jf c0 c1 c2 c3 c4 c5 c6 c7).toArray 115)=V6:=⟨_,rfl⟩;rw[hV6] at kJ ⊢;have B6:=zab hV6;have zl:wr.heap.size<V6.heap.size:=kJ.lt;clear hV6;obtain⟨-,p1,p2,-⟩:=zc11 kJ
     go_cut [7,8] from 45 to 50 (fun s t wx=>∃ B7 B8:Nat,s=.pointer (some ⟨B7,0,none⟩)∧t=.pointer (some ⟨B8,0,none⟩)∧Blk wx B7 157 #[.bool false,.int .i64 js]∧Blk wx B8 157 #[.bool true,.int .i64 jf]∧(V6.heap.size≤B7∧V6.heap.size≤B8)∧Below V6.heap.size V6 wx)
     case first=>
      refine wp_region_held_drew (S:=fun W=>W.cell? ⟨wr.heap.size,1,none⟩=some (.int .i64 js)∧W.cell? ⟨wr.heap.size,2,none⟩=some (.int .i64 jf)) (by kernel_rfl) ?_ (fun hHeld => ?_)
      ·exact⟨p1,p2⟩
      refine zht 0 ?_;refine zht 1 ?_;refine zht 2 ?_;refine zht 3 ?_;refine zht 4 ?_;refine zht 5 ?_;refine zhr2 6 7 (fun K hK => ?_) (fun K hK => ?_)
      ·go_simp
       refine hK.out _ _ (by exact⟨cell_keep (B:=V6.heap.size) zbl p1 zl,cell_keep (B:=V6.heap.size) zbl p2 zl⟩) fun hHeld => ?_
       clear hK K;(try simp only[Act.put,zy0,zy1,zy2]);refine zhr 7 (fun K hK => ?_)
       ·go_simp
        refine hK.out _ _ (by exact⟨cell_keep (B:=V6.heap.size) zbl p1 zl,cell_keep (B:=V6.heap.size) zbl p2 zl⟩) fun hHeld => ?_
        clear hK K;(try simp only[Act.put,zy0,zy1,zy2]);refine zhr 8 (fun K hK => ?_)
        ·go_simp
         refine hK.out _ _ (by exact⟨cell_keep (B:=V6.heap.size) zbl p1 zl,cell_keep (B:=V6.heap.size) zbl p2 zl⟩) fun hHeld => ?_
         clear hK K;(try simp only[Act.put,zy0,zy1,zy2]);refine zhr 9 (fun K hK => ?_)
         ·go_simp
          refine hK.out _ _ (by exact⟨cell_keep (B:=V6.heap.size) zbl p1 zl,cell_keep (B:=V6.heap.size) zbl p2 zl⟩) fun hHeld => ?_
          clear hK K;(try simp only[Act.put,zy0,zy1,zy2]);refine wpAnyH_done (by kernel_rfl) ?_ _;go_wp2_with fail
          go_meet
          refine⟨_,_,rfl,rfl,?_,?_,⟨by simp,by simp⟩,?_⟩
          ·exact zbk
          ·exact zbk
          ·exact zbl
      ·go_simp
       refine hK.out _ _ (by exact⟨cell_keep (B:=V6.heap.size) zbl p1 zl,cell_keep (B:=V6.heap.size) zbl p2 zl⟩) fun hHeld => ?_
       clear hK K;(try simp only[Act.put,zy0,zy1,zy2]);refine zhr 6 (fun K hK => ?_)
       ·go_simp
        refine hK.out _ _ (by exact⟨cell_keep (B:=V6.heap.size) zbl p1 zl,cell_keep (B:=V6.heap.size) zbl p2 zl⟩) fun hHeld => ?_
        clear hK K;(try simp only[Act.put,zy0,zy1,zy2]);refine zhr 8 (fun K hK => ?_)
        ·go_simp
         refine hK.out _ _ (by exact⟨cell_keep (B:=V6.heap.size) zbl p1 zl,cell_keep (B:=V6.heap.size) zbl p2 zl⟩) fun hHeld => ?_
         clear hK K;(try simp only[Act.put,zy0,zy1,zy2]);refine zhr 9 (fun K hK => ?_)
         ·go_simp
          refine hK.out _ _ (by exact⟨cell_keep (B:=V6.heap.size) zbl p1 zl,cell_keep (B:=V6.heap.size) zbl p2 zl⟩) fun hHeld => ?_
          clear hK K;(try simp only[Act.put,zy0,zy1,zy2]);refine wpAnyH_done (by kernel_rfl) ?_ _;go_wp2_with fail
          go_meet
          refine⟨_,_,rfl,rfl,?_,?_,⟨by simp,by simp⟩,?_⟩
          ·exact zbk
          ·exact zbk
          ·exact zbl
     case rest=>
      obtain⟨B7,B8,rfl,rfl,k7,k8,⟨h7,h8⟩,hb9⟩:=hcut;have kD9:=(kD.below_ B6 zD).below_ hb9 (Nat.lt_trans zD zl);have kJ9:=kJ.below_ hb9 zl;have b9:Below w.heap.size w wc:=hb.trans ((B6.trans (hb9.mono (Nat.le_of_lt zl))).mono hb.size);have HM9:Hid (MapT takT wc (w.heap.size+1) cnt (takM (k0.jobs.take k))):=(HMP.out.ext B6).ext hb9;have z7:=k7.lt;have z8:=k8.lt;have zD9:=kD9.lt;clear q0 q1 q2 p1 p2;clear e0 e1 e2 e3 e4 e5 e6 e7 e8 e9 e10;obtain⟨q0,q1,q2⟩:=zc3 kD9;obtain⟨-,j1,j2,-⟩:=zc11 kJ9;have zJ9:=kJ9.lt;go_wp2_with fail;refine (dIn_any A (some ⟨b,off,none⟩) c d n m room js jf wc).mono ?_;rintro e5 w5 ⟨rfl,hb5⟩;have HIN:Hid (inD k0 js jf=decide (0≤js∧js<(n:Int)∧0≤jf∧jf<256)):=by show _=_;unfold inD;rw[HN.out]
      have kD5:=kD9.below_ hb5 zD9;have kJ5:=kJ9.below_ hb5 zJ9;have k75:=k7.below_ hb5 z7;have k85:=k8.below_ hb5 z8;have HM5:Hid (MapT takT w5 (w.heap.size+1) cnt (takM (k0.jobs.take k))):=HM9.out.ext hb5;have b5:=zbt b9 hb5;have hs5:=hb5.size;have z7w:B7<w5.heap.size:=by omega
      have z8w:B8<w5.heap.size:=by omega
      have zJ5:wr.heap.size<w5.heap.size:=by omega
      have zm:w.heap.size+1<wr.heap.size:=HMP.out.lt;have ne7:B7≠w.heap.size+1:=by omega
      have ne8:B8≠w.heap.size+1:=by omega
      clear q0 q1 q2 j1 j2;have a0:=zc k75 0;have a1:=zc k75 1;have d0:=zc k85 0;have d1:=zc k85 1;obtain⟨vin,hvin⟩:∃ v,decide (0≤js∧js<(n:Int)∧0≤jf∧jf<256)=v:=⟨_,rfl⟩;rw[hvin];rw[hvin] at HIN
      cases vin
      ·have hcc:=HC.out
       rw[HIN.out] at hcc;simp only[Bool.not_false,if_true,Prod.mk.injEq] at hcc;obtain⟨rfl,rfl⟩:=hcc;go_wp2_with fail;refine bodyPost_ret (by simp[results,Tryz.results61,go_sem] <;> rfl) rfl ?_;exact⟨rfl,b5⟩
      ·have hin:0≤js∧js<(n:Int)∧0≤jf∧jf<256:=by simpa using hvin
       have HWS:Hid ((Lit.int .i64 js).wf=true):=wf_i (by omega);have HWF:Hid ((Lit.int .i64 jf).wf=true):=wf_i (by omega);have hcc:=HC.out;rw[HIN.out,hit_has] at hcc;simp only[Bool.not_true,Bool.false_eq_true,if_false] at hcc;clear hvin hin
       cases hs:hasK (k0.jobs.take k) (false,js)
       ·have L7:=takT_look HM5.out false js HWS.out hs
        rw[hs,Bool.false_or] at hcc
        cases hf:hasK (k0.jobs.take k) (true,jf)
        ·have L8:=takT_look HM5.out true jf HWF.out hf
         rw[hf] at hcc;simp only[Bool.false_eq_true,if_false] at hcc
         cases jw
         ·have hq:∀ W:World,(Op.equalIn 10000 38 (.agg (zkk c0 c1 c2 c3 c4 c5 c6 c7).toArray) (.agg (zkk 0 0 0 0 0 0 0 0).toArray)).run Tryz.prog W=.ok (decide ((⟨c0,c1,c2,c3,c4,c5,c6,c7⟩:Ct)=.zero)) W:=fun W=>eq_ct W ⟨c0,c1,c2,c3,c4,c5,c6,c7⟩ .zero
          obtain⟨j0,j1,j2,j3,j4,j5,j6,j7,j8,j9,j10⟩:=zc11 kJ5
          cases hz:decide ((⟨c0,c1,c2,c3,c4,c5,c6,c7⟩:Ct)=.zero)
          ·rw[hz] at hq hcc
           simp only[Bool.not_false,Bool.and_self,if_true,Prod.mk.injEq] at hcc;obtain⟨rfl,rfl⟩:=hcc;clear hz hs hf;go_wp2_with fail;refine bodyPost_ret (by simp[results,Tryz.results61,go_sem] <;> rfl) rfl ?_;exact⟨rfl,b5⟩
          ·rw[hz] at hq hcc
           simp only[Bool.not_true,Bool.and_false,Bool.false_eq_true,if_false] at hcc;have HNX:=Lib.hid hcc;clear hz hcc hs hf;obtain⟨wA,hpA0,hmA,hgA,hsA⟩:=(HM5.out.ext (Below.refl _ w5).drew).run_put (by unfold maxLen;omega) (k:=(false,js)) (v:=true) HWS.out trivial;have hpA:(Instr.mapUpdate 155 (.map (some (w.heap.size+1))) (.agg #[.bool false,.int .i64 js]) (.bool true)).run Tryz.prog w5.drew=.ok () wA:=hpA0;obtain⟨wB,hpB0,hmB,hgB,hsB⟩:=hmA.run_put (by unfold maxLen;omega) (k:=(true,jf)) (v:=true) HWF.out trivial;have hpB:(Instr.mapUpdate 155 (.map (some (w.heap.size+1))) (.agg #[.bool true,.int .i64 jf]) (.bool true)).run Tryz.prog wA=.ok () wB:=hpB0;have hmT:MapT takT wB (w.heap.size+1) (cnt+1+1) (takM (k0.jobs.take (k+1))):=by rw[List.take_add_one,HX.out];show MapT _ _ _ _ (takM (k0.jobs.take k++[_]));rw[takM_add];exact hmB
           have BB:Below w.heap.size w wB:=below_grown (below_grown b5.drew hgA (by omega)) hgB (by omega);have kDB:=(kD5.drew_.kept hgA (by simp)).kept hgB (by simp);have zA7:B7<wA.heap.size:=by rw[hsA];exact z7w
           have zA8:B8<wA.heap.size:=by rw[hsA];exact z8w
           clear hpA0 hpB0;go_wp2_with fail;refine wp_region_held_drew (S:=fun W=>W.cell? ⟨B7,0,none⟩=some (.bool false)∧W.cell? ⟨B7,1,none⟩=some (.int .i64 js)∧W.cell? ⟨B8,0,none⟩=some (.bool true)∧W.cell? ⟨B8,1,none⟩=some (.int .i64 jf)) (by kernel_rfl) ?_ (fun hHeld => ?_)
           ·exact⟨a0,a1,d0,d1⟩
           refine zht 0 ?_;refine zht 1 ?_;refine zht 2 ?_;refine zht 3 ?_;refine zhr 4 (fun K hK => ?_);go_simp
           refine hK.out _ _ (by first | exact⟨grown_cell hgA a0 z7w ne7,grown_cell hgA a1 z7w ne7,grown_cell hgA d0 z8w ne8,grown_cell hgA d1 z8w ne8⟩ | exact⟨grown_cell hgB (grown_cell hgA a0 z7w ne7) zA7 ne7,grown_cell hgB (grown_cell hgA a1 z7w ne7) zA7 ne7,grown_cell hgB (grown_cell hgA d0 z8w ne8) zA8 ne8,grown_cell hgB (grown_cell hgA d1 z8w ne8) zA8 ne8⟩) fun hHeld => ?_
           clear hK K;(try simp only[Act.put,zy0,zy1,zy2]);refine zhr 5 (fun K hK => ?_);go_simp
           refine hK.out _ _ (by first | exact⟨grown_cell hgA a0 z7w ne7,grown_cell hgA a1 z7w ne7,grown_cell hgA d0 z8w ne8,grown_cell hgA d1 z8w ne8⟩ | exact⟨grown_cell hgB (grown_cell hgA a0 z7w ne7) zA7 ne7,grown_cell hgB (grown_cell hgA a1 z7w ne7) zA7 ne7,grown_cell hgB (grown_cell hgA d0 z8w ne8) zA8 ne8,grown_cell hgB (grown_cell hgA d1 z8w ne8) zA8 ne8⟩) fun hHeld => ?_
           clear hK K;(try simp only[Act.put,zy0,zy1,zy2]);refine wpAnyH_done (by kernel_rfl) ?_ _;go_wp2_with fail;exact⟨⟨k+1,cnt+1+1,by omega,by go_num,kDB,hmT,by omega,HNX.out,BB⟩,by simp[intOf];omega⟩
         ·simp only[Bool.not_true,Bool.false_and,Bool.false_eq_true,if_false] at hcc
          have HNX:=Lib.hid hcc;clear hcc hs hf;have j0:=zc kJ5 0;obtain⟨wA,hpA0,hmA,hgA,hsA⟩:=(HM5.out.ext (Below.refl _ w5).drew).run_put (by unfold maxLen;omega) (k:=(false,js)) (v:=true) HWS.out trivial;have hpA:(Instr.mapUpdate 155 (.map (some (w.heap.size+1))) (.agg #[.bool false,.int .i64 js]) (.bool true)).run Tryz.prog w5.drew=.ok () wA:=hpA0;obtain⟨wB,hpB0,hmB,hgB,hsB⟩:=hmA.run_put (by unfold maxLen;omega) (k:=(true,jf)) (v:=true) HWF.out trivial;have hpB:(Instr.mapUpdate 155 (.map (some (w.heap.size+1))) (.agg #[.bool true,.int .i64 jf]) (.bool true)).run Tryz.prog wA=.ok () wB:=hpB0;have hmT:MapT takT wB (w.heap.size+1) (cnt+1+1) (takM (k0.jobs.take (k+1))):=by rw[List.take_add_one,HX.out];show MapT _ _ _ _ (takM (k0.jobs.take k++[_]));rw[takM_add];exact hmB
          have BB:Below w.heap.size w wB:=below_grown (below_grown b5.drew hgA (by omega)) hgB (by omega);have kDB:=(kD5.drew_.kept hgA (by simp)).kept hgB (by simp);have zA7:B7<wA.heap.size:=by rw[hsA];exact z7w
          have zA8:B8<wA.heap.size:=by rw[hsA];exact z8w
          clear hpA0 hpB0;go_wp2_with fail;refine wp_region_held_drew (S:=fun W=>W.cell? ⟨B7,0,none⟩=some (.bool false)∧W.cell? ⟨B7,1,none⟩=some (.int .i64 js)∧W.cell? ⟨B8,0,none⟩=some (.bool true)∧W.cell? ⟨B8,1,none⟩=some (.int .i64 jf)) (by kernel_rfl) ?_ (fun hHeld => ?_)
          ·exact⟨a0,a1,d0,d1⟩
          refine zht 0 ?_;refine zht 1 ?_;refine zht 2 ?_;refine zht 3 ?_;refine zhr 4 (fun K hK => ?_);go_simp
          refine hK.out _ _ (by first | exact⟨grown_cell hgA a0 z7w ne7,grown_cell hgA a1 z7w ne7,grown_cell hgA d0 z8w ne8,grown_cell hgA d1 z8w ne8⟩ | exact⟨grown_cell hgB (grown_cell hgA a0 z7w ne7) zA7 ne7,grown_cell hgB (grown_cell hgA a1 z7w ne7) zA7 ne7,grown_cell hgB (grown_cell hgA d0 z8w ne8) zA8 ne8,grown_cell hgB (grown_cell hgA d1 z8w ne8) zA8 ne8⟩) fun hHeld => ?_
          clear hK K;(try simp only[Act.put,zy0,zy1,zy2]);refine zhr 5 (fun K hK => ?_);go_simp
          refine hK.out _ _ (by first | exact⟨grown_cell hgA a0 z7w ne7,grown_cell hgA a1 z7w ne7,grown_cell hgA d0 z8w ne8,grown_cell hgA d1 z8w ne8⟩ | exact⟨grown_cell hgB (grown_cell hgA a0 z7w ne7) zA7 ne7,grown_cell hgB (grown_cell hgA a1 z7w ne7) zA7 ne7,grown_cell hgB (grown_cell hgA d0 z8w ne8) zA8 ne8,grown_cell hgB (grown_cell hgA d1 z8w ne8) zA8 ne8⟩) fun hHeld => ?_
          clear hK K;(try simp only[Act.put,zy0,zy1,zy2]);refine wpAnyH_done (by kernel_rfl) ?_ _;go_wp2_with fail;exact⟨⟨k+1,cnt+1+1,by omega,by go_num,kDB,hmT,by omega,HNX.out,BB⟩,by simp[intOf];omega⟩
        ·have L8:=takT_look HM5.out true jf HWF.out hf
         rw[hf] at hcc;simp only[if_true,Prod.mk.injEq] at hcc;obtain⟨rfl,rfl⟩:=hcc;clear hs hf;go_wp2_with fail;refine bodyPost_ret (by simp[results,Tryz.results61,go_sem] <;> rfl) rfl ?_;exact⟨rfl,b5⟩
       ·have L7:=takT_look HM5.out false js HWS.out hs
        rw[hs,Bool.true_or] at hcc;simp only[if_true,Prod.mk.injEq] at hcc;obtain⟨rfl,rfl⟩:=hcc;clear hs;go_wp2_with fail;refine bodyPost_ret (by simp[results,Tryz.results61,go_sem] <;> rfl) rfl ?_;exact⟨rfl,b5⟩
    ·obtain rfl:k=m:=by omega
     have hcc:=HR.out;rw[List.drop_of_length_le (by rw[HM.out];exact Nat.le_refl _),chkDG] at hcc
     cases hcc
     go_wp2_with fail;refine bodyPost_ret (by simp[results,Tryz.results61,go_sem] <;> rfl) rfl ?_;exact⟨rfl,hb⟩
def DcPost(k0:Dsk)(w:World)(e:Ending)(w':World):Prop:=∃ A c B d,e=.returned (dkV A c B d k0)∧OwnE ctE w' w.heap.size A c k0.cells∧OwnE jbE w' w.heap.size B d k0.jobs∧Below w.heap.size w w'
theorem dClone_any(A B:Option Addr)(c d:Nat)(k0:Dsk)(w:World)(ha:SR ctE w A k0.cells)(hb:SR jbE w B k0.jobs)(la:k0.cells.length≤1000)(lb:k0.jobs.length≤1000) :
  Calls Tryz.prog 174 #[dkV A c B d k0] w (DcPost k0 w):=by
 have HA:=Lib.hid ha;have HB:=Lib.hid hb;unfold dkV;clear ha hb;obtain⟨X,hX⟩:∃ X,(w.alloc (.cells #[.slice A k0.cells.length c,.slice B k0.jobs.length d,.int .i64 k0.room] 31)).alloc (.cells #[.slice none 0 0,.slice none 0 0,.int .i64 0] 31)=X:=⟨_,rfl⟩;have kD:Blk X w.heap.size 31 #[.slice A k0.cells.length c,.slice B k0.jobs.length d,.int .i64 k0.room]:=by rw[←hX];exact zbk
 have kT:=za2 hX;have BX:Below w.heap.size w X:=by rw[←hX];exact zbl
 have hXs:X.heap.size=w.heap.size+2:=by rw[←hX];simp
 go_enter Tryz.func174,Tryz.ntmps174
 go_wp2_with fail;(try rw[hX]);clear hX;refine zrg [0,1,2,0,1,2,0,1,0,3] [[],[],[],[],[],[],[],[],[2,5],[]] [.is ?_,.kn ?_,.has (ClnF ctE k0.cells k0.cells.length),.is ?_,.kn ?_,.has (ClnF jbE k0.jobs k0.jobs.length),.is ?_,.kn ?_,.fn [2,5] (fun l=>.agg #[l.getD 0 undef,l.getD 1 undef,.int .i64 k0.room]),.late] [9] (lts_is (lts_kn (lts_has (ClnF.lasts ctE k0.cells _) (lts_is (lts_kn (lts_has (ClnF.lasts jbE k0.jobs _) (lts_is (lts_kn (lts_fn (lts_late lts_nil)))))))))) (fun W0 hb0 hz0 => ?_)
 rotate_left 6
 have kW:=kD.below_ hb0 kD.lt;have zW:=kW.lt;have kT0:=kT.below_ hb0 kT.lt;have zX0:w.heap.size≤W0.heap.size:=Nat.le_trans BX.size hb0.size;obtain⟨p0,p1,p2⟩:=zc3 kW;refine zqp ?_;refine zqT (fun w hbw hd => ?_) ?_
 ·have q1:=cell_keep hbw p0 zW
  exact zgs
 refine zqh (fun w hbw hd K Q' hK => ?_) (fun vcl2 => ?_)
 ·clear hd
  go_simp;refine (ClnC_any A c k0.cells _ (HA.out.ext (BX.trans ((hb0.mono BX.size).trans (hbw.mono zX0)))) la).mono ?_;rintro e y ⟨A',c',rfl,ho,hy⟩;go_wp2_with fail;exact hK.out (.slice A' k0.cells.length c') _ _ zpt zbm ⟨A',c',rfl,ho⟩
 refine zqp ?_;refine zqT (fun w hbw hd => ?_) ?_
 ·have q1:=cell_keep hbw p1 zW
  exact zgs
 refine zqh (fun w hbw hd K Q' hK => ?_) (fun vcl5 => ?_)
 ·clear hd
  go_simp;refine (ClnJ_any B d k0.jobs _ (HB.out.ext (BX.trans ((hb0.mono BX.size).trans (hbw.mono zX0)))) lb).mono ?_;rintro e y ⟨A',c',rfl,ho,hy⟩;go_wp2_with fail;exact hK.out (.slice A' k0.jobs.length c') _ _ zpt zbm ⟨A',c',rfl,ho⟩
 refine zqp ?_;refine zqT (fun w hbw hd => ?_) ?_
 ·have q1:=cell_keep hbw p2 zW
  exact zgs
 refine zqF (.agg #[vcl2,vcl5,.int .i64 k0.room]) (fun w0 hd w => ?_) ?_
 ·obtain⟨_,_,A',d',rfl,_⟩:∃ lo hi,ClnF ctE k0.cells k0.cells.length vcl2 lo hi w0:=hd 2 _ _ (by kernel_rfl) rfl rfl
  obtain⟨_,_,B',d',rfl,_⟩:∃ lo hi,ClnF jbE k0.jobs k0.jobs.length vcl5 lo hi w0:=hd 5 _ _ (by kernel_rfl) rfl rfl;exact zsr
 refine zql ?_;refine chn_end (fun wz lo hi hbz hd hR => ?_);obtain⟨A1,d1,rfl,o1⟩:ClnF ctE k0.cells k0.cells.length vcl2 (lo 2) (hi 2) wz:=hd 2 _ _ rfl rfl;obtain⟨A2,d2,rfl,o2⟩:ClnF jbE k0.jobs k0.jobs.length vcl5 (lo 5) (hi 5) wz:=hd 5 _ _ rfl rfl;have r2:=(hR.2 2 _ rfl).1;have r5:=(hR.2 5 _ rfl).1;have zX1:w.heap.size+2≤W0.heap.size:=Nat.le_trans (by rw[hXs];exact Nat.le_refl _) hb0.size;have BZ:Below w.heap.size w wz:=BX.trans ((hb0.trans (hbz.mono hb0.size)).mono BX.size);have kTz:=kT0.below_ hbz kT0.lt;have zTz:=kTz.lt;clear hd hR p0 p1 p2;obtain⟨y0,y1,y2⟩:=zc3 kTz;obtain⟨yf0,yf1,yf2,-⟩:=zf kTz;refine late_one (by simp only[zy5,zy6,zy7];rfl) (fun K Q' hK => ?_);go_simp;refine hK.out _ ?_;clear hK K Q';go_wp2_with fail;obtain⟨W,hW⟩:∃ W,((wz.setCell ⟨w.heap.size+1,0,none⟩ (.slice A1 k0.cells.length d1)).setCell ⟨w.heap.size+1,1,none⟩ (.slice A2 k0.jobs.length d2)).setCell ⟨w.heap.size+1,2,none⟩ (.int .i64 k0.room)=W:=⟨_,rfl⟩;have kW:Blk W (w.heap.size+1) 31 #[.slice A1 k0.cells.length d1,.slice A2 k0.jobs.length d2,.int .i64 k0.room]:=by rw[←hW];exact(((kTz.set_ 0 _).set_ 1 _).set_ 2 _)
 have bW:Below w.heap.size w W:=by rw[←hW];exact zbl
 have o1W:OwnE ctE W (w.heap.size+2) A1 d1 k0.cells:=by rw[←hW];exact((((o1.base_ (by omega)).far (by exact Nat.lt_succ_self _) _).far (by exact Nat.lt_succ_self _) _).far (by exact Nat.lt_succ_self _) _)
 have o2W:OwnE jbE W (w.heap.size+2) A2 d2 k0.jobs:=by rw[←hW];exact((((o2.base_ (by omega)).far (by exact Nat.lt_succ_self _) _).far (by exact Nat.lt_succ_self _) _).far (by exact Nat.lt_succ_self _) _)
 rw[hW];clear hW y0 y1 y2;refine bodyPost_ret (by simp[results,Tryz.results174,go_sem,zc3 kW] <;> rfl) rfl ?_;exact⟨A1,d1,A2,d2,rfl,o1W.base_ (by omega),o2W.base_ (by omega),bW⟩
theorem wpList_putJb{ops:Array Oper}{rest:List Oper}{o:Oper}{a:Act}{Z:Exit→Act→World→Prop}(w:World)(hg:o.guard=none)(mo x vo:Operand)(hop:o.op=Op.mapUpdate 220 mo x vo)
  (B n:Nat) (m:Bool × Int→Option Int) (hm:a.eval mo=.map (some B)) (h:MapT jobT w B n m) (hn:n<maxLen) (k:Bool × Int) (v:Int) (hx:a.eval x=.agg #[.bool k.1,.int .i64 k.2]) (hv:a.eval vo=.int .i64 v) (hk:(Lit.int .i64 k.2).wf=true) (hwf:(Lit.int .i64 v).wf=true)
  (hK:∀ w',MapT jobT w' B (n+1) (fun j=>if j=k then some v else m j)→w.grownBy w' (some B)→w'.heap.size=w.heap.size→wpList Tryz.prog ops Z rest (a.put o.dst undef) w'):wpList Tryz.prog ops Z (o::rest) a w:=
 wpList_putT jobT w hg _ rfl mo x vo hop B n m hm h hn k v hx hv hk hwf hK
def JmPost(js:List Jb)(w:World)(e:Ending)(w':World):Prop:=∃ M n m,e=.returned (.map (some M))∧MapT jobT w' M n m∧(∀ k,(m k).isSome=hasK js k)∧Below w.heap.size w w'
theorem hasK_add(js:List Jb)(j:Jb)(k:Bool × Int):hasK (js++[j]) k=(hasK js k || decide (k=(false,j.slot)) || decide (k=(true,j.frame))):=by
 obtain⟨f,n⟩:=k;unfold hasK;rw[List.any_append,Bool.or_assoc]
 congr 1
 cases f
 ·by_cases e:j.slot=n
  ·subst e;simp[jkey]
  ·have:¬ n=j.slot:=fun h=>e h.symm
   simp[jkey,e,this]
 ·by_cases e:j.frame=n
  ·subst e;simp[jkey]
  ·have:¬ n=j.frame:=fun h=>e h.symm
   simp[jkey,e,this]
theorem dJobs_any(A B:Option Addr)(c d:Nat)(k0:Dsk)(w:World)(hb:SR jbE w B k0.jobs)(hok:OkD k0):Calls Tryz.prog 184 #[dkV A c B d k0] w (JmPost k0.jobs w):=by
 have HB:=Lib.hid hb
 have HIN:Hid (∀ j ∈ k0.jobs,(Lit.int .i64 j.slot).wf=true∧(Lit.int .i64 j.frame).wf=true):=fun j hj=>by
  have:=hok.inr j hj;have:=hok.cells;exact⟨wf_i (by omega),wf_i (by omega)⟩
 have lb:k0.jobs.length≤32:=by have:=hok.few;have:=hok.room;omega
 have hmm:=@run_makeMap Tryz.prog;unfold dkV;clear hb hok
 go_enter Tryz.func184,Tryz.ntmps184
 go_wp2_with fail;obtain⟨V,hV⟩:∃ V,(w.alloc (.cells #[.slice A k0.cells.length c,.slice B k0.jobs.length d,.int .i64 k0.room] 31)).alloc (.map #[] 0)=V:=⟨_,rfl⟩
 have hM:MapT jobT V (w.heap.size+1) 0 (fun _=>none):=by
  have h:=MapT.new_ (T:=jobT) (w.alloc (.cells #[.slice A k0.cells.length c,.slice B k0.jobs.length d,.int .i64 k0.room] 31));rw[hV] at h;simpa using h
 have BV:Below w.heap.size w V:=by rw[←hV];exact zbl
 rw[hV];clear hV
 go_loopw [10] (fun i wr=>∃ (k cnt:Nat) (m:Bool × Int→Option Int),k≤k0.jobs.length∧i=.int .i64 k∧Hid (MapT jobT wr (w.heap.size+1) cnt m)∧cnt≤2*k∧Hid (∀ key,(m key).isSome=hasK (k0.jobs.take k) key)∧Below w.heap.size w wr) (fun i _=>k0.jobs.length - (intOf i).toNat)
 case atStart=>exact⟨0,0,_,by omega,rfl,hM,by omega,(fun key=>by simp[hasK]),BV⟩
 case round=>
  clear hM BV;obtain⟨k,cnt,m,hk,rfl,HM,hcn,HS,hb⟩:=hrel
  by_cases hlt:k<k0.jobs.length
  ·have i1:(k:Int)<k0.jobs.length:=by omega
   obtain⟨b,off,x,rfl,hbl,hx,hc⟩:=(HB.out.ext hb).at_ hlt;have hwf:=HIN.out x (List.mem_of_getElem? hx);obtain⟨jw,js,jf,⟨c0,c1_,c2_,c3,c4,c5_,c6,c7⟩⟩:=x;have HX:=Lib.hid hx;obtain⟨HW1,HW2⟩:=hwf;replace HW1:=Lib.hid HW1;replace HW2:=Lib.hid HW2;have HWK:Hid ((Lit.int .i64 (k:Int)).wf=true):=wf_i (by omega);clear hx;have e0:wr.cell? ⟨b,off+k*11,none⟩=some (.bool jw):=hc 0 _ rfl;have e1:wr.cell? ⟨b,off+k*11+1,none⟩=some (.int .i64 js):=hc 1 _ rfl;have e2:wr.cell? ⟨b,off+k*11+2,none⟩=some (.int .i64 jf):=hc 2 _ rfl;have e3:wr.cell? ⟨b,off+k*11+3,none⟩=some (.int .u64 c0):=hc 3 _ rfl;have e4:wr.cell? ⟨b,off+k*11+4,none⟩=some (.int .u64 c1_):=hc 4 _ rfl;have e5:wr.cell? ⟨b,off+k*11+5,none⟩=some (.int .u64 c2_):=hc 5 _ rfl;have e6:wr.cell? ⟨b,off+k*11+6,none⟩=some (.int .u64 c3):=hc 6 _ rfl;have e7:wr.cell? ⟨b,off+k*11+7,none⟩=some (.int .u64 c4):=hc 7 _ rfl;have e8:wr.cell? ⟨b,off+k*11+8,none⟩=some (.int .u64 c5_):=hc 8 _ rfl;have e9:wr.cell? ⟨b,off+k*11+9,none⟩=some (.int .u64 c6):=hc 9 _ rfl;have e10:wr.cell? ⟨b,off+k*11+10,none⟩=some (.int .u64 c7):=hc 10 _ rfl;obtain⟨V6,hV6⟩:∃ V6,wr.alloc (.cells (zkj jw js jf c0 c1_ c2_ c3 c4 c5_ c6 c7).toArray 115)=V6:=⟨_,rfl⟩;have kJ:=za hV6;have B6:=zab hV6;have HM6:Hid (MapT jobT V6 (w.heap.size+1) cnt m):=HM.out.ext B6;have zM:w.heap.size+1<wr.heap.size:=HM.out.lt;have zJ:=kJ.lt;obtain⟨-,j1,j2,-⟩:=zc11 kJ;go_upto_region 5 with fail;(try rw[hV6]);clear hV6 e0 e1 e2 e3 e4 e5 e6 e7 e8 e9 e10
   go_wp2_with (first | (at_mapUpdate;refine wpList_putJb _ rfl _ _ _ rfl (w.heap.size+1) cnt m rfl HM6.out (by unfold maxLen;omega) (false,js) (k:Int) rfl rfl HW1.out HWK.out ?_;intro w7 h7 g7 s7;have j17:=grown_cell g7 j1 zJ (by omega);have j27:=grown_cell g7 j2 zJ (by omega);have zJ7:wr.heap.size<w7.heap.size:=(by omega);have HM7:=Lib.hid h7;clear h7) | (at_mapUpdate;refine wpList_putJb _ rfl _ _ _ rfl (w.heap.size+1) (cnt+1) _ rfl HM7.out (by unfold maxLen;omega) (true,jf) (k:Int) rfl rfl HW2.out HWK.out ?_;intro w8 h8 g8 s8))
   have B8:Below w.heap.size w w8:=below_grown (below_grown (hb.trans (B6.mono hb.size)) g7 (by omega)) g8 (by omega)
   go_roundw
   case rel=>
    refine⟨k+1,cnt+1+1,_,by omega,by go_num,h8,by omega,fun key => ?_,B8⟩;rw[List.take_add_one,HX.out];show _=hasK (k0.jobs.take k++[_]) key;rw[hasK_add,←HS.out key];dsimp only
    by_cases e1:key=(true,jf)
    ·rw[if_pos e1];simp[e1]
    ·rw[if_neg e1]
     by_cases e2:key=(false,js)
     ·rw[if_pos e2];simp[e2]
     ·rw[if_neg e2];simp[e1,e2]
   case measure=>simp[intOf];omega
  ·obtain rfl:k=k0.jobs.length:=by omega
   go_wp2_with fail;go_ret;refine⟨w.heap.size+1,cnt,m,rfl,HM.out,fun key => ?_,hb⟩;rw[HS.out,List.take_length]
theorem OwnR.blk_{α:Type}{E:Elt Tryz.prog α}{w:World}{base n:Nat}{A:Option Addr}{c:Nat}{l:List α}(h:OwnR E w base (.slice A n c) l)(hc:c≠0):∃ g,A=some ⟨g,0,none⟩∧base≤g∧g<w.heap.size:=by
 obtain⟨_,⟨e,_⟩ | ⟨g,cap,cur,e,hg,hb,_⟩⟩:=h
 ·injection e with _ _ e;exact absurd e hc
 ·injection e with e
  exact⟨g,e,hg,(Array.getElem?_eq_some_iff.1 hb).1⟩
theorem OwnE.row{α:Type}{E:Elt Tryz.prog α}{w:World}{base:Nat}{A:Option Addr}{c:Nat}{l:List α}(h:OwnE E w base A c l)(hc:c≠0):OwnR E w base (.slice A l.length c) l:=by
 rcases h.can with ⟨e,_⟩ | h1
 ·rcases h.own with e2 | h2
  ·subst e2;exact absurd e hc
  ·exact h2
 ·exact h1
theorem OwnE.blk{α:Type}{E:Elt Tryz.prog α}{w:World}{base:Nat}{A:Option Addr}{c:Nat}{l:List α}(h:OwnE E w base A c l)(hc:c≠0):∃ g,A=some ⟨g,0,none⟩∧base≤g∧g<w.heap.size:=(h.row hc).blk_ hc
def KeptE(A:Option Addr)(c:Nat)(w w':World):Prop:=∀ b,b<w.heap.size→(c≠0→A.map (·.block)≠some b)→w'.heap[b]? = w.heap[b]?
theorem KeptE.blk{A:Option Addr}{c:Nat}{w w':World}(h:KeptE A c w w'){b:Nat}{t:TypeId}{cs:Array Value}(hb:Blk w b t cs)(hn:c≠0→A.map (·.block)≠some b):Blk w' b t cs:=(h b hb.lt hn).trans hb
theorem OwnE.not_{α:Type}{E:Elt Tryz.prog α}{w:World}{base:Nat}{A:Option Addr}{c:Nat}{l:List α}(h:OwnE E w base A c l){b:Nat}(hb:b<base∨w.heap.size≤b):c≠0→A.map (·.block)≠some b:=fun hc e=>by
 obtain⟨g,e2,h1,h2⟩:=h.blk hc;subst e2;simp at e;omega
theorem run_appE{α:Type}(E:Elt Tryz.prog α)(ty:TypeId)(w:World)(base:Nat)(hbase:base≤w.heap.size)(A:Option Addr)(c:Nat)(l:List α)(h:OwnE E w base A c l)(B:Option Addr)(d:Nat)(k:List α)(hk:SR E w B k)(hp:0<k.length)(hl:l.length+k.length≤10000) :
  ∃ A' c' w',(Builtin.append_ #[E.s,E.s] ty #[.slice A l.length c,.slice B k.length d]).run Tryz.prog w=.ok (.slice A' (l++k).length c') w'∧OwnE E w' base A' c' (l++k)∧Below base w w'∧KeptE A c w w'∧w.heap.size≤w'.heap.size:=by
 have hne:l++k≠[]:=fun e=>by rw[(List.append_eq_nil_iff.1 e).2] at hp;simp at hp
 by_cases hc:c=0
 ·have hl0:l=[]:=by
   have:=h.cr.2;exact List.length_eq_zero_iff.1 (by omega)
  subst hl0 hc;obtain⟨A',c',w',hrun,h2,h3,h4⟩:=run_appR E ty w w.heap.size (Nat.le_refl _) A 0 [] (.inl ⟨rfl,SR.nil⟩) B d k hk hl;have ho:=(h4 (.inl rfl)).resolve_left hne;exact⟨A',c',w',hrun,⟨.inr (ho.base_ hbase),.inr (ho.base_ hbase)⟩,h3.mono hbase,fun b hb _=>h3.block b hb,h3.size⟩
 ·have h1:=h.row hc
  obtain⟨A',c',w',hrun,h2,h3,h4⟩:=run_ownR E ty w base hbase A c l h1 B d k hk hp hl;refine⟨A',c',w',hrun,⟨.inr h2,.inr h2⟩,h3,fun b hb hn=>h4.block b hb ?_,h4.size⟩;obtain⟨g,e,_⟩:=h.blk hc;have:=hn hc;subst e;intro e;exact this (by simpa [Value.ownBlock] using e.symm)
theorem wpList_appE{α:Type}(E:Elt Tryz.prog α){ops:Array Oper}{rest:List Oper}{o:Oper}{a:Act}{Q:Exit→Act→World→Prop}(hgd:o.guard=none)(s x:Operand)(t:TypeId)(ht:t=E.s)
  (ho:o.op=.call { callee:=.builtin .append,args:=#[s,x],argTypes:=#[t,t] })
  (w:World) (base:Nat) (hbase:base≤w.heap.size) (A:Option Addr) (c n:Nat) (l:List α) (hn:n=l.length) (h:OwnE E w base A c l) (B:Option Addr) (d n':Nat) (k:List α) (hn':n'=k.length) (hk:SR E w B k) (hp:0<k.length) (hl:l.length+k.length≤10000)
  (hs:a.eval s=.slice A n c) (hx:a.eval x=.slice B n' d)
  (hK:∀ A' c' w',OwnE E w' base A' c' (l++k)→Below base w w'→KeptE A c w w'→w.heap.size≤w'.heap.size→wpList Tryz.prog ops Q rest (a.put o.dst (.slice A' (l++k).length c')) w'):wpList Tryz.prog ops Q (o::rest) a w:=by
 subst hn hn' ht
 refine wpList_plain hgd fun K' hK' => ?_
 obtain⟨A',c',w',hrun,h2,h3,h4,h5⟩:=run_appE E o.type w base hbase A c l h B d k hk hp hl;unfold Oper.wp execOp;simp only[ho,resolve,invoke,builtin,Sem.run_bind,Sem.run_pure,Result.andThen_ok,List.map_toArray,List.map_cons,List.map_nil,hs,hx,hrun];exact hK' _ _ (hK A' c' w' h2 h3 h4 h5)
theorem OwnE.keptT{α β:Type}{E:Elt Tryz.prog α}{E':Elt Tryz.prog β}{w w':World}{base base':Nat}{A A':Option Addr}{c c':Nat}{l:List α}{l':List β}(h:OwnE E w base A c l)(h':OwnE E' w base' A' c' l')(ht:E.e≠E'.e)(hk:KeptE A' c' w w'):OwnE E w' base A c l:=by
 by_cases hc:c=0
 ·have hl0:l=[]:=by
   have:=h.cr.2;exact List.length_eq_zero_iff.1 (by omega)
  subst hl0 hc;exact⟨.inl ⟨rfl,SR.nil⟩,.inl rfl⟩
 ·have h1:=h.row hc
  have key:OwnR E w' base (.slice A l.length c) l:=by
   obtain⟨hl,⟨e,hn⟩ | ⟨g,cap,cur,e,hg,hb,hr⟩⟩:=h1
   ·exact⟨hl,.inl ⟨e,hn⟩⟩
   ·refine⟨hl,.inr ⟨g,cap,cur,e,hg,(hk g (Array.getElem?_eq_some_iff.1 hb).1 fun hc' e' => ?_).trans hb,hr⟩⟩
    have h2:=h'.row hc';obtain⟨_,⟨e2,_⟩ | ⟨g2,cap2,cur2,e2,_,hb2,_⟩⟩:=h2
    ·injection e2 with _ _ e2;exact absurd e2 hc'
    ·injection e2 with e2
     subst e2;simp at e';subst e';rw[hb] at hb2;injection hb2 with hb2
     injection hb2 with _ hb2
     exact ht hb2
  exact⟨.inr key,.inr key⟩
theorem OwnE.farB{α:Type}{E:Elt Tryz.prog α}{w:World}{base:Nat}{A:Option Addr}{c:Nat}{l:List α}(h:OwnE E w base A c l){b:Nat}{t:TypeId}{cs:Array Value}(hb:Blk w b t cs)(ht:E.e≠t)(i:Nat)(u:Value):OwnE E (w.setCell ⟨b,i,none⟩ u) base A c l:=by
 by_cases hc:c=0
 ·have hl0:l=[]:=by
   have:=h.cr.2;exact List.length_eq_zero_iff.1 (by omega)
  subst hl0 hc;exact⟨.inl ⟨rfl,SR.nil⟩,.inl rfl⟩
 ·have h1:=h.row hc
  have key:OwnR E (w.setCell ⟨b,i,none⟩ u) base (.slice A l.length c) l:=by
   have h2:=h1;obtain⟨_,⟨e,hn⟩ | ⟨g,cap,cur,e,hg,hb',hr⟩⟩:=h1
   ·injection e with _ _ e;exact absurd e hc
   ·injection e with e
    subst e;refine h2.far' (p:=⟨b,i,none⟩) (fun e => ?_) u;dsimp only at e;subst e;unfold Blk at hb;rw[hb'] at hb;injection hb with hb
    injection hb with _ hb
    exact ht hb
  exact⟨.inr key,.inr key⟩
end Go.Proofs.YthijbipidbjpfaaGreatDoor
