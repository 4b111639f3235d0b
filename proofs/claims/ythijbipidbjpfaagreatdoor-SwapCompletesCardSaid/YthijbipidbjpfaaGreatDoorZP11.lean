import Derived.Test.YthijbipidbjpfaaGreatDoorZP10
import Derived.Test.YthijbipidbjpfaaGreatDoorZP00
import Derived.Test.YthijbipidbjpfaaGreatDoorZP03
import Derived.Test.YthijbipidbjpfaaGreatDoorZP06
import Derived.DeepKeys4
import Derived.WideKeyPair
set_option linter.unusedSimpArgs false
set_option linter.unusedVariables false
set_option maxRecDepth 100000
set_option maxHeartbeats 8000000
namespace Go.Proofs.YthijbipidbjpfaaGreatDoor
open Go.RowKit Go.Maps
theorem grown_cell{w w':World}{b i M:Nat}{v:Value}(hg:w.grownBy w' (some M))(h:w.cell? ⟨b,i,none⟩=some v)(hlt:b<w.heap.size)(hne:b≠M):w'.cell? ⟨b,i,none⟩=some v:=by
 unfold World.cell? at h ⊢;rw[hg.block b hlt (by simpa using hne)];exact h
theorem sUnref_any(A B:Option Addr)(c d:Nat)(s:Sts)(i:Int)(w:World)(ha:SR intE w A s.refs)(hb:SR boolE w B s.busy)(la:s.refs.length≤40)(lb:s.busy.length≤40) :
  Calls Tryz.prog 87 #[stV A c B d s,.int .i64 i] w (StPost (unrT s i).1 [.bool (unrT s i).2.1,.int .i64 (unrT s i).2.2] w):=by
 have HA:=Lib.hid ha;have HB:=Lib.hid hb;obtain⟨z,hzz⟩:∃ z,askT s i=z:=⟨_,rfl⟩;have HZ:=Lib.hid hzz
 by_cases z0:z=0
 ·skip
  subst z0;have hok:=ask_ok hzz;obtain⟨hi0,hi1⟩:=(askT_zero hok).1 hzz;obtain⟨k,rfl⟩:∃ k:Nat,i=k:=⟨i.toNat,by omega⟩;have hk:k<s.refs.length:=by omega
  have HBL:Hid (s.busy.length=s.refs.length):=hok.blen;obtain⟨r,hr⟩:∃ r,refT s k=r:=⟨_,rfl⟩;have hrr:=ref_range hok k;rw[hr] at hrr;have HR:=Lib.hid hr
  by_cases hr0:r=0
  ·have HE:Hid (unrT s k=(.zero,false,15)):=by show _=_;unfold unrT;rw[hzz,if_neg (by simp),Int.toNat_natCast,hr,if_pos hr0]
   subst hr0;rw[HE.out];unfold stV;clear ha hb hzz hok hr
   go_enter Tryz.func87,Tryz.ntmps87
   go_wp2_with fail;have BX:Below w.heap.size w ((w.alloc (.cells #[.slice A s.refs.length c,.slice B s.busy.length d] 25)).alloc (.cells #[.slice none 0 0,.slice none 0 0] 25)):=zbl;refine (at_good A B c d s k _ (HA.out.ext BX) (HB.out.ext BX) la HZ.out).mono ?_;rintro e1 w1 ⟨M,x,rfl,hF,hMl,hb1⟩;have hMw:w.heap.size+2≤M:=by have:=hMl;simp at this;omega
   clear hMl;unfold bkV;have B1:Below w.heap.size w w1:=BX.trans (hb1.mono (by simp;omega))
   have kS:Blk w1 w.heap.size 25 #[.slice A s.refs.length c,.slice B s.busy.length d]:=by refine Blk.below_ ?_ hb1 ?_ <;> first | exact Blk.alloc_ (Blk.new_ rfl rfl) _ | (simp;omega) | simp
   have kR:Blk w1 (w.heap.size+1) 25 #[.slice none 0 0,.slice none 0 0]:=by refine Blk.below_ ?_ hb1 ?_ <;> first | exact Blk.new_ (by simp) rfl | simp
   have zS:=kS.lt;have zR:=kR.lt;clear hb1 BX;obtain⟨t0,t1⟩:=zc2 kR;obtain⟨tf0,tf1,-⟩:=zf kR;go_wp2_with fail;obtain⟨V,hV⟩:∃ V,w1.alloc (.cells #[.int .i64 s.refs.length,.map (some M),.int .u64 (x:Nat),.int .u64 0,.int .u64 0,.int .u64 0] 180)=V:=⟨_,rfl⟩;have HK:Hid (BK V w1.heap.size M s.refs.length s):=by show BK _ _ _ _ _;rw[←hV];exact BK.of_F hF
   replace kR:Blk V (w.heap.size+1) 25 #[.slice none 0 0,.slice none 0 0]:=by rw[←hV];exact kR.alloc_ _
   have BV:Below w.heap.size w V:=by rw[←hV];exact B1.alloc B1.size _
   have zV:V.heap.size=w1.heap.size+1:=by rw[←hV];simp
   have hMlt:=hF.lt;have HF:Hid (BkF s M x V):=by show BkF _ _ _ _;rw[←hV];exact hF.ext ((Below.refl _ _).alloc (Nat.le_refl _) _)
   clear t0 t1 tf0 tf1;obtain⟨t0,t1⟩:=zc2 kR;obtain⟨tf0,tf1,-⟩:=zf kR;have zRV:=kR.lt;rw[hV];clear hV hF;have g1:V.cell? ⟨w1.heap.size,1,none⟩=some (.map (some M)):=HK.out.mapc;have zg:w1.heap.size<V.heap.size:=HK.out.lt;have hlk:=HK.out.look k (by omega);rw[HR.out] at hlk;rw[hlk];go_wp2_with fail;obtain⟨W,hW⟩:∃ W,(V.setCell ⟨w.heap.size+1,0,none⟩ (.slice none 0 0)).setCell ⟨w.heap.size+1,1,none⟩ (.slice none 0 0)=W:=⟨_,rfl⟩;have kW:Blk W (w.heap.size+1) 25 #[.slice none 0 0,.slice none 0 0]:=by rw[←hW];exact((kR.set_ 0 _).set_ 1 _)
   have bW:Below w.heap.size w W:=by rw[←hW];exact zbl
   rw[hW];clear hW t0 t1;refine bodyPost_ret (by simp[results,Tryz.results87,go_sem,zc2 kW] <;> rfl) rfl ?_;exact StPost.zero bW
  ·have r0b:(r == 0)=false:=by simpa using hr0
   obtain⟨S2,hS2⟩:∃ S2,witT s k (r - 1) (bsyT s k)=S2:=⟨_,rfl⟩;have HL2:Hid (S2.refs.length=s.refs.length):=by show _=_;rw[←hS2];simp[witT]
   have HB2:Hid (S2.busy.length=s.busy.length):=by show _=_;rw[←hS2];simp[witT]
   have HE:Hid (unrT s k=(S2,freT S2 k,0)):=by show _=_;unfold unrT;rw[hzz,if_neg (by simp),Int.toNat_natCast,hr,if_neg hr0,hS2]
   have HS2:=Lib.hid hS2;have HWK:Hid ((Lit.int .i64 (k:Int)).wf=true):=wf_i (by omega);have HWR:Hid ((Lit.int .i64 (r - 1)).wf=true):=wf_i (by omega);rw[HE.out];unfold stV;clear ha hb hzz hok hr hS2
   by_cases hr1:r - 1=0
   ·have r1b:(r - 1 == 0)=true:=by simpa using hr1
    have HR1:=Lib.hid hr1;clear hr1
    go_enter Tryz.func87,Tryz.ntmps87
    go_wp2_with fail;have BX:Below w.heap.size w ((w.alloc (.cells #[.slice A s.refs.length c,.slice B s.busy.length d] 25)).alloc (.cells #[.slice none 0 0,.slice none 0 0] 25)):=zbl;refine (at_good A B c d s k _ (HA.out.ext BX) (HB.out.ext BX) la HZ.out).mono ?_;rintro e1 w1 ⟨M,x,rfl,hF,hMl,hb1⟩;have hMw:w.heap.size+2≤M:=by have:=hMl;simp at this;omega
    clear hMl;unfold bkV;have B1:Below w.heap.size w w1:=BX.trans (hb1.mono (by simp;omega))
    have kS:Blk w1 w.heap.size 25 #[.slice A s.refs.length c,.slice B s.busy.length d]:=by refine Blk.below_ ?_ hb1 ?_ <;> first | exact Blk.alloc_ (Blk.new_ rfl rfl) _ | (simp;omega) | simp
    have kR:Blk w1 (w.heap.size+1) 25 #[.slice none 0 0,.slice none 0 0]:=by refine Blk.below_ ?_ hb1 ?_ <;> first | exact Blk.new_ (by simp) rfl | simp
    have zS:=kS.lt;have zR:=kR.lt;clear hb1 BX;obtain⟨t0,t1⟩:=zc2 kR;obtain⟨tf0,tf1,-⟩:=zf kR;go_wp2_with fail;obtain⟨V,hV⟩:∃ V,w1.alloc (.cells #[.int .i64 s.refs.length,.map (some M),.int .u64 (x:Nat),.int .u64 0,.int .u64 0,.int .u64 0] 180)=V:=⟨_,rfl⟩;have HK:Hid (BK V w1.heap.size M s.refs.length s):=by show BK _ _ _ _ _;rw[←hV];exact BK.of_F hF
    replace kR:Blk V (w.heap.size+1) 25 #[.slice none 0 0,.slice none 0 0]:=by rw[←hV];exact kR.alloc_ _
    have BV:Below w.heap.size w V:=by rw[←hV];exact B1.alloc B1.size _
    have zV:V.heap.size=w1.heap.size+1:=by rw[←hV];simp
    have hMlt:=hF.lt;have HF:Hid (BkF s M x V):=by show BkF _ _ _ _;rw[←hV];exact hF.ext ((Below.refl _ _).alloc (Nat.le_refl _) _)
    clear t0 t1 tf0 tf1;obtain⟨t0,t1⟩:=zc2 kR;obtain⟨tf0,tf1,-⟩:=zf kR;have zRV:=kR.lt;rw[hV];clear hV hF;have g1:V.cell? ⟨w1.heap.size,1,none⟩=some (.map (some M)):=HK.out.mapc;have zg:w1.heap.size<V.heap.size:=HK.out.lt;have hlk:=HK.out.look k (by omega);rw[HR.out] at hlk;rw[hlk];obtain⟨cnt,hM,hcn,_,_⟩:=HF.out;have HM:=Lib.hid hM;clear hM
    go_wp2_with (first | (at_mapUpdate;refine wpList_putRf _ rfl _ _ _ rfl M cnt (mR s) rfl HM.out (by unfold maxLen;omega) (k:Int) (r - 1) rfl rfl HWK.out HWR.out ?_;intro w4 hm4 hg4 hs4;have B4:Below w.heap.size w w4:=below_grown BV hg4 (by omega);replace kR:=kR.kept hg4 (by simp;omega);have zR4:=kR.lt;have zg4:w1.heap.size<w4.heap.size:=(by omega);have hlk4:(Instr.lookup 176 (.map (some M)) (.int .i64 (k:Int)) false).run Tryz.prog w4=.ok (.int .i64 (r - 1)) w4:=(MapT.look_ hm4 (k:=(k:Int)) (v:=r - 1) HWK.out (by simp));have g14:=grown_cell hg4 g1 zg (by omega);have HM4:=Lib.hid hm4;clear hm4 t0 t1 tf0 tf1) | (at_delete;refine wpList_delRf _ rfl _ _ rfl M (cnt+1) _ rfl HM4.out (k:Int) rfl HWK.out ?_;intro w8 hm8 hg8 hs8))
    have B8:Below w.heap.size w w8:=below_grown B4 hg8 (by omega);replace kR:=kR.kept hg8 (by simp;omega);have zR8:=kR.lt
    have hm5:(fun j=>if j=(k:Int) then none else if j=(k:Int) then some (r - 1) else mR s j)=mR (witT s k (r - 1) (bsyT s k)):=by
     rw[mR_wit hk]
     funext j
     by_cases e:j=k
     ·rw[if_pos e,if_pos e,if_neg (by rw[HR1.out];simp)]
     ·rw[if_neg e,if_neg e,if_neg e]
    have HK8:Hid (BK w8 w1.heap.size M s.refs.length S2):=by show BK _ _ _ _ _;rw[←HS2.out];exact HK.out.upd (hg4.andThen hg8 (fun j hj=>.inr hj)) (by omega) hk HBL.out hm8 (by omega) hm5
    clear hm8 B4 zR4 zg4;obtain⟨t0,t1⟩:=zc2 kR;obtain⟨tf0,tf1,-⟩:=zf kR;refine (slots_any w1.heap.size M S2 w8 (by rw[HL2.out];exact HK8.out) (by rw[HL2.out];omega) (by rw[HL2.out];omega) (by rw[HB2.out,HL2.out,HBL.out])).mono ?_;rintro e5 w5 ⟨A2,c2,B2,d2,rfl,oI,oB,hb5⟩;have hs4:=B8.size;have z4R:w.heap.size+2≤w8.heap.size:=by omega
    replace oI:=oI.base_ z4R;replace oB:=oB.base_ z4R;have B5:Below w.heap.size w w5:=B8.trans (hb5.mono hs4);replace kR:=kR.below_ hb5 zR8;have HK5:=Lib.hid (HK8.out.ext hb5);have zR5:=kR.lt;unfold stV;clear t0 t1 tf0 tf1;obtain⟨t0,t1⟩:=zc2 kR;obtain⟨tf0,tf1,-⟩:=zf kR;go_wp2_with fail;refine (free_any w1.heap.size M _ S2 k w5 HK5.out (by omega)).mono ?_;rintro e6 w6 ⟨rfl,rfl⟩;go_wp2_with fail;obtain⟨W,hW⟩:∃ W,(w5.setCell ⟨w.heap.size+1,0,none⟩ (.slice A2 S2.refs.length c2)).setCell ⟨w.heap.size+1,1,none⟩ (.slice B2 S2.busy.length d2)=W:=⟨_,rfl⟩;have kW:Blk W (w.heap.size+1) 25 #[.slice A2 S2.refs.length c2,.slice B2 S2.busy.length d2]:=by rw[←hW];exact((kR.set_ 0 _).set_ 1 _)
    have bW:Below w.heap.size w W:=by rw[←hW];exact zbl
    have oI8:OwnE intE W (w.heap.size+2) A2 c2 S2.refs:=by rw[←hW];exact(oI.far (by exact Nat.lt_succ_self _) _).far (by exact Nat.lt_succ_self _) _
    have oB8:OwnE boolE W (w.heap.size+2) B2 d2 S2.busy:=by rw[←hW];exact(oB.far (by exact Nat.lt_succ_self _) _).far (by exact Nat.lt_succ_self _) _
    rw[hW];clear hW t0 t1;refine bodyPost_ret (by simp[results,Tryz.results87,go_sem,zc2 kW] <;> rfl) rfl ?_;exact⟨A2,c2,B2,d2,rfl,oI8.base_ (by omega),oB8.base_ (by omega),bW⟩
   ·have r1b:(r - 1 == 0)=false:=by simpa using hr1
    go_enter Tryz.func87,Tryz.ntmps87
    go_wp2_with fail;have BX:Below w.heap.size w ((w.alloc (.cells #[.slice A s.refs.length c,.slice B s.busy.length d] 25)).alloc (.cells #[.slice none 0 0,.slice none 0 0] 25)):=zbl;refine (at_good A B c d s k _ (HA.out.ext BX) (HB.out.ext BX) la HZ.out).mono ?_;rintro e1 w1 ⟨M,x,rfl,hF,hMl,hb1⟩;have hMw:w.heap.size+2≤M:=by have:=hMl;simp at this;omega
    clear hMl;unfold bkV;have B1:Below w.heap.size w w1:=BX.trans (hb1.mono (by simp;omega))
    have kS:Blk w1 w.heap.size 25 #[.slice A s.refs.length c,.slice B s.busy.length d]:=by refine Blk.below_ ?_ hb1 ?_ <;> first | exact Blk.alloc_ (Blk.new_ rfl rfl) _ | (simp;omega) | simp
    have kR:Blk w1 (w.heap.size+1) 25 #[.slice none 0 0,.slice none 0 0]:=by refine Blk.below_ ?_ hb1 ?_ <;> first | exact Blk.new_ (by simp) rfl | simp
    have zS:=kS.lt;have zR:=kR.lt;clear hb1 BX;obtain⟨t0,t1⟩:=zc2 kR;obtain⟨tf0,tf1,-⟩:=zf kR;go_wp2_with fail;obtain⟨V,hV⟩:∃ V,w1.alloc (.cells #[.int .i64 s.refs.length,.map (some M),.int .u64 (x:Nat),.int .u64 0,.int .u64 0,.int .u64 0] 180)=V:=⟨_,rfl⟩;have HK:Hid (BK V w1.heap.size M s.refs.length s):=by show BK _ _ _ _ _;rw[←hV];exact BK.of_F hF
    replace kR:Blk V (w.heap.size+1) 25 #[.slice none 0 0,.slice none 0 0]:=by rw[←hV];exact kR.alloc_ _
    have BV:Below w.heap.size w V:=by rw[←hV];exact B1.alloc B1.size _
    have zV:V.heap.size=w1.heap.size+1:=by rw[←hV];simp
    have hMlt:=hF.lt;have HF:Hid (BkF s M x V):=by show BkF _ _ _ _;rw[←hV];exact hF.ext ((Below.refl _ _).alloc (Nat.le_refl _) _)
    clear t0 t1 tf0 tf1;obtain⟨t0,t1⟩:=zc2 kR;obtain⟨tf0,tf1,-⟩:=zf kR;have zRV:=kR.lt;rw[hV];clear hV hF;have g1:V.cell? ⟨w1.heap.size,1,none⟩=some (.map (some M)):=HK.out.mapc;have zg:w1.heap.size<V.heap.size:=HK.out.lt;have hlk:=HK.out.look k (by omega);rw[HR.out] at hlk;rw[hlk];obtain⟨cnt,hM,hcn,_,_⟩:=HF.out;have HM:=Lib.hid hM;clear hM
    go_wp2_with (first | (at_mapUpdate;refine wpList_putRf _ rfl _ _ _ rfl M cnt (mR s) rfl HM.out (by unfold maxLen;omega) (k:Int) (r - 1) rfl rfl HWK.out HWR.out ?_;intro w4 hm4 hg4 hs4;have B4:Below w.heap.size w w4:=below_grown BV hg4 (by omega);replace kR:=kR.kept hg4 (by simp;omega);have zR4:=kR.lt;have zg4:w1.heap.size<w4.heap.size:=(by omega);have hlk4:(Instr.lookup 176 (.map (some M)) (.int .i64 (k:Int)) false).run Tryz.prog w4=.ok (.int .i64 (r - 1)) w4:=(MapT.look_ hm4 (k:=(k:Int)) (v:=r - 1) HWK.out (by simp));have g14:=grown_cell hg4 g1 zg (by omega);have HM4:=Lib.hid hm4;clear hm4 t0 t1 tf0 tf1))
    have hm5:(fun j=>if j=(k:Int) then some (r - 1) else mR s j)=mR (witT s k (r - 1) (bsyT s k)):=by rw[mR_wit hk,if_pos (by omega)]
    have HK4:Hid (BK w4 w1.heap.size M s.refs.length S2):=by show BK _ _ _ _ _;rw[←HS2.out];exact HK.out.upd hg4 (by omega) hk HBL.out HM4.out (by omega) hm5
    clear HM4;obtain⟨t0,t1⟩:=zc2 kR;obtain⟨tf0,tf1,-⟩:=zf kR;refine (slots_any w1.heap.size M S2 w4 (by rw[HL2.out];exact HK4.out) (by rw[HL2.out];omega) (by rw[HL2.out];omega) (by rw[HB2.out,HL2.out,HBL.out])).mono ?_;rintro e5 w5 ⟨A2,c2,B2,d2,rfl,oI,oB,hb5⟩;have hs4:=B4.size;have z4R:w.heap.size+2≤w4.heap.size:=by omega
    replace oI:=oI.base_ z4R;replace oB:=oB.base_ z4R;have B5:Below w.heap.size w w5:=B4.trans (hb5.mono hs4);replace kR:=kR.below_ hb5 zR4;have HK5:=Lib.hid (HK4.out.ext hb5);have zR5:=kR.lt;unfold stV;clear t0 t1 tf0 tf1;obtain⟨t0,t1⟩:=zc2 kR;obtain⟨tf0,tf1,-⟩:=zf kR;go_wp2_with fail;refine (free_any w1.heap.size M _ S2 k w5 HK5.out (by omega)).mono ?_;rintro e6 w6 ⟨rfl,rfl⟩;go_wp2_with fail;obtain⟨W,hW⟩:∃ W,(w5.setCell ⟨w.heap.size+1,0,none⟩ (.slice A2 S2.refs.length c2)).setCell ⟨w.heap.size+1,1,none⟩ (.slice B2 S2.busy.length d2)=W:=⟨_,rfl⟩;have kW:Blk W (w.heap.size+1) 25 #[.slice A2 S2.refs.length c2,.slice B2 S2.busy.length d2]:=by rw[←hW];exact((kR.set_ 0 _).set_ 1 _)
    have bW:Below w.heap.size w W:=by rw[←hW];exact zbl
    have oI8:OwnE intE W (w.heap.size+2) A2 c2 S2.refs:=by rw[←hW];exact(oI.far (by exact Nat.lt_succ_self _) _).far (by exact Nat.lt_succ_self _) _
    have oB8:OwnE boolE W (w.heap.size+2) B2 d2 S2.busy:=by rw[←hW];exact(oB.far (by exact Nat.lt_succ_self _) _).far (by exact Nat.lt_succ_self _) _
    rw[hW];clear hW t0 t1;refine bodyPost_ret (by simp[results,Tryz.results87,go_sem,zc2 kW] <;> rfl) rfl ?_;exact⟨A2,c2,B2,d2,rfl,oI8.base_ (by omega),oB8.base_ (by omega),bW⟩
 ·have HE:Hid (unrT s i=(.zero,false,z)):=by show _=_;unfold unrT;rw[hzz,if_pos z0]
  have hz:=z0;have zb:(z != 0)=true:=by simpa using z0
  rw[HE.out];unfold stV;clear ha hb hzz z0
  go_enter Tryz.func87,Tryz.ntmps87
  go_wp2_with fail;have BX:Below w.heap.size w ((w.alloc (.cells #[.slice A s.refs.length c,.slice B s.busy.length d] 25)).alloc (.cells #[.slice none 0 0,.slice none 0 0] 25)):=zbl;refine (at_bad A B c d s i _ (HA.out.ext BX) la lb HZ.out hz).mono ?_;rintro e1 w1 ⟨rfl,hb1⟩;unfold bkZ;have B1:Below w.heap.size w w1:=BX.trans (hb1.mono (by simp;omega))
  have kS:Blk w1 w.heap.size 25 #[.slice A s.refs.length c,.slice B s.busy.length d]:=by refine Blk.below_ ?_ hb1 ?_ <;> first | exact Blk.alloc_ (Blk.new_ rfl rfl) _ | (simp;omega) | simp
  have kR:Blk w1 (w.heap.size+1) 25 #[.slice none 0 0,.slice none 0 0]:=by refine Blk.below_ ?_ hb1 ?_ <;> first | exact Blk.new_ (by simp) rfl | simp
  have zS:=kS.lt;have zR:=kR.lt;clear hb1 BX;obtain⟨t0,t1⟩:=zc2 kR;obtain⟨tf0,tf1,-⟩:=zf kR;go_wp2_with fail;obtain⟨W,hW⟩:∃ W,((w1.setCell ⟨w.heap.size+1,0,none⟩ (.slice none 0 0)).setCell ⟨w.heap.size+1,1,none⟩ (.slice none 0 0)).alloc (.cells #[.int .i64 0,.map none,.int .u64 0,.int .u64 0,.int .u64 0,.int .u64 0] 180)=W:=⟨_,rfl⟩;have kW:Blk W (w.heap.size+1) 25 #[.slice none 0 0,.slice none 0 0]:=by rw[←hW];exact((kR.set_ 0 _).set_ 1 _).alloc_ _
  have bW:Below w.heap.size w W:=by rw[←hW];exact((B1.setCell (p:=⟨w.heap.size+1,0,none⟩) (by show w.heap.size≤w.heap.size+1;omega) _).setCell (p:=⟨w.heap.size+1,1,none⟩) (by show w.heap.size≤w.heap.size+1;omega) _).alloc (by have:=B1.size;simpa using this) _
  rw[hW];clear hW t0 t1 tf0 tf1;refine bodyPost_ret (by simp[results,Tryz.results87,go_sem,zc2 kW] <;> rfl) rfl ?_;exact StPost.zero bW
theorem sNew_any(N:Int)(w:World)(hn:N≤40∨256<N):Calls Tryz.prog 73 #[.int .i64 N] w (StPost (newT N).1 [.int .i64 (newT N).2] w):=by
 have B0:Below w.heap.size w (w.alloc (.cells #[.slice none 0 0,.slice none 0 0] 25)):=zbl
 by_cases h1:N<1
 ·have HE:Hid (newT N=(.zero,2)):=by show _=_;unfold newT;rw[if_pos (.inl h1)]
  have h1b:decide (N<1)=true:=by simpa using h1
  rw[HE.out]
  go_enter Tryz.func73,Tryz.ntmps73
  go_wp2_with fail;refine bodyPost_ret (by simp[results,Tryz.results73,go_sem] <;> rfl) rfl ?_;exact StPost.zero B0
 ·by_cases h2:256<N
  ·have HE:Hid (newT N=(.zero,2)):=by show _=_;unfold newT;rw[if_pos (.inr h2)]
   have h1b:decide (N<1)=false:=by simpa using h1
   have h2b:decide (N>256)=true:=by simpa using h2
   rw[HE.out]
   go_enter Tryz.func73,Tryz.ntmps73
   go_wp2_with fail;refine bodyPost_ret (by simp[results,Tryz.results73,go_sem] <;> rfl) rfl ?_;exact StPost.zero B0
  ·obtain⟨n,rfl⟩:∃ n:Nat,N=n:=⟨N.toNat,by omega⟩
   have hm:n≤40:=by omega
   have HE:Hid (newT n=(⟨List.replicate n 0,List.replicate n false⟩,0)):=by show _=_;unfold newT;rw[if_neg (by omega)];simp
   have h1b:decide ((n:Int)<1)=false:=by simpa using h1
   have h2b:decide ((n:Int)>256)=false:=by simpa using h2
   rw[HE.out]
   have hmI:=fun (W:World)=>run_mkR intE 0 (by rfl) n (by omega) W
   have hmB:=fun (W:World)=>run_mkR boolE false (by rfl) n (by omega) W
   replace hmI:∀ W:World,(Instr.makeSlice 22 (.int .i64 n) (.int .i64 n)).run Tryz.prog W=.ok (.slice (some ⟨W.heap.size,0,none⟩) n n) (W.alloc (.cells (intE.flat (List.replicate n 0)).toArray 3)):=hmI
   replace hmB:∀ W:World,(Instr.makeSlice 23 (.int .i64 n) (.int .i64 n)).run Tryz.prog W=.ok (.slice (some ⟨W.heap.size,0,none⟩) n n) (W.alloc (.cells (boolE.flat (List.replicate n false)).toArray 4)):=hmB
   go_enter Tryz.func73,Tryz.ntmps73
   go_wp2_with fail;refine zrg [0,2,0,2,0,3,0] [[],[],[],[],[1,3],[],[]] [.is ?_,.has (MkF intE (List.replicate n 0) n),.is ?_,.has (MkF boolE (List.replicate n false) n),.fn [1,3] (fun l=>.agg #[l.getD 0 undef,l.getD 1 undef]),.late,.is ?_] [5] (lts_is (lts_has (MkF.lasts intE (List.replicate n 0) n) (lts_is (lts_has (MkF.lasts boolE (List.replicate n false) n) (lts_fn (lts_late (lts_is lts_nil))))))) (fun W0 hb0 hz0 => ?_)
   rotate_left 3
   refine zqp ?_;refine zqh (fun w hbw hd K Q' hK => ?_) (fun vnw1 => ?_)
   ·clear hd
    go_simp;exact hK.out (.slice (some ⟨w.heap.size,0,none⟩) n n) _ _ zpt zbm ⟨_,rfl,OwnR.made intE 0 n (by omega) _ (Nat.le_refl _),by simp,Nat.le_refl _⟩
   refine zqp ?_;refine zqh (fun w hbw hd K Q' hK => ?_) (fun vnw3 => ?_)
   ·clear hd
    go_simp;exact hK.out (.slice (some ⟨w.heap.size,0,none⟩) n n) _ _ zpt zbm ⟨_,rfl,OwnR.made boolE false n (by omega) _ (Nat.le_refl _),by simp,Nat.le_refl _⟩
   refine zqF (.agg #[vnw1,vnw3]) (fun w0 hd w => ?_) ?_
   ·obtain⟨_,_,g1,rfl,_⟩:∃ lo hi,MkF intE (List.replicate n 0) n vnw1 lo hi w0:=hd 1 _ _ (by kernel_rfl) rfl rfl
    obtain⟨_,_,g2,rfl,_⟩:∃ lo hi,MkF boolE (List.replicate n false) n vnw3 lo hi w0:=hd 3 _ _ (by kernel_rfl) rfl rfl;exact zsr
   refine zql ?_;refine zqp ?_;refine chn_end (fun wz lo hi hbz hd hR => ?_);obtain⟨gI,rfl,oI,lI,mI⟩:MkF intE (List.replicate n 0) n vnw1 (lo 1) (hi 1) wz:=hd 1 _ _ rfl rfl;obtain⟨gB,rfl,oB,lB,mB⟩:MkF boolE (List.replicate n false) n vnw3 (lo 3) (hi 3) wz:=hd 3 _ _ rfl rfl;have r1:=(hR.2 1 _ rfl).1;have r2:=(hR.2 3 _ rfl).1;have hz0w:=hb0.size;have zz1:w.heap.size+1≤W0.heap.size:=by simpa using hz0w
   have hbwz:Below w.heap.size w wz:=B0.trans ((hb0.trans (hbz.mono hz0w)).mono (by simp));have kz:Blk wz w.heap.size 25 #[.slice none 0 0,.slice none 0 0]:=(Blk.new_ rfl rfl:Blk (w.alloc (.cells #[.slice none 0 0,.slice none 0 0] 25)) w.heap.size 25 _).below_ (hb0.trans (hbz.mono hz0w)) (by simp);have klz:=kz.lt;clear hd hR;obtain⟨y0,y1⟩:=zc2 kz;obtain⟨yf0,yf1,-⟩:=zf kz;refine late_one (by simp only[zy5,zy6,zy7];rfl) (fun K Q' hK => ?_);go_simp;refine hK.out _ ?_;clear hK K Q';obtain⟨V,hV⟩:∃ V,(wz.setCell ⟨w.heap.size,0,none⟩ (.slice (some ⟨gI,0,none⟩) n n)).setCell ⟨w.heap.size,1,none⟩ (.slice (some ⟨gB,0,none⟩) n n)=V:=⟨_,rfl⟩;have kV:Blk V w.heap.size 25 #[.slice (some ⟨gI,0,none⟩) n n,.slice (some ⟨gB,0,none⟩) n n]:=by rw[←hV];exact(kz.set_ 0 _).set_ 1 _
   have BV:Below w.heap.size w V:=by rw[←hV];exact zbl
   have oI2:OwnR intE V (w.heap.size+1) (.slice (some ⟨gI,0,none⟩) n n) (List.replicate n 0):=by rw[←hV];exact((oI.base_ (by omega)).far' (p:=⟨w.heap.size,0,none⟩) (by show gI≠w.heap.size;omega) _).far' (p:=⟨w.heap.size,1,none⟩) (by show gI≠w.heap.size;omega) _
   have oB2:OwnR boolE V (w.heap.size+1) (.slice (some ⟨gB,0,none⟩) n n) (List.replicate n false):=by rw[←hV];exact((oB.base_ (by omega)).far' (p:=⟨w.heap.size,0,none⟩) (by show gB≠w.heap.size;omega) _).far' (p:=⟨w.heap.size,1,none⟩) (by show gB≠w.heap.size;omega) _
   rw[hV];clear hV y0 y1;obtain⟨v0,v1⟩:=zc2 kV;go_wp2_with fail;refine bodyPost_ret (by simp[results,Tryz.results73,go_sem,v0,v1] <;> rfl) rfl ?_;exact⟨some ⟨gI,0,none⟩,n,some ⟨gB,0,none⟩,n,by simp[stV],OwnE.of_own (oI2.base_ (by omega)) (by simp),OwnE.of_own (oB2.base_ (by omega)) (by simp),BV⟩
theorem sAlloc_any(A B:Option Addr)(c d:Nat)(s:Sts)(r:Int)(w:World)(ha:SR intE w A s.refs)(hb:SR boolE w B s.busy)(la:s.refs.length≤40)(lb:s.busy.length≤40) :
  Calls Tryz.prog 110 #[stV A c B d s,.int .i64 r] w (StPost (alcT s r).1 [.int .i64 (alcT s r).2.1,.int .i64 (alcT s r).2.2] w):=by
 have HA:=Lib.hid ha;have HB:=Lib.hid hb;obtain⟨⟨z,kz⟩,hzz⟩:∃ z,chkT s=z:=⟨_,rfl⟩;have HZ:=Lib.hid hzz
 by_cases z0:z=0
 ·subst z0
  have hok:=(chkT_ok (s:=s)).1 (by rw[hzz]);have HBL:Hid (s.busy.length=s.refs.length):=hok.blen;have HRG:Hid (∀ r ∈ s.refs,0≤r∧r≤512):=hok.range
  by_cases r1:r<1
  ·have HE:Hid (alcT s r=(.zero,0,15)):=by show _=_;unfold alcT;rw[hzz,if_neg (by simp),if_pos (.inl r1)]
   have r1b:decide (r<1)=true:=by simpa using r1
   rw[HE.out];unfold stV;clear ha hb hzz hok
   go_enter Tryz.func110,Tryz.ntmps110
   go_wp2_with fail;have BX:Below w.heap.size w ((w.alloc (.cells #[.slice A s.refs.length c,.slice B s.busy.length d] 25)).alloc (.cells #[.slice none 0 0,.slice none 0 0] 25)):=zbl;refine (sCheck_any A B c d s _ (HA.out.ext BX) (by omega) (by omega) HZ.out).mono ?_;rintro e1 w0 ⟨rfl,hb1⟩;have B1:Below w.heap.size w w0:=BX.trans (hb1.mono (by simp;omega))
   have kS:Blk w0 w.heap.size 25 #[.slice A s.refs.length c,.slice B s.busy.length d]:=by refine Blk.below_ ?_ hb1 ?_ <;> first | exact Blk.alloc_ (Blk.new_ rfl rfl) _ | (simp;omega) | simp
   have kR:Blk w0 (w.heap.size+1) 25 #[.slice none 0 0,.slice none 0 0]:=by refine Blk.below_ ?_ hb1 ?_ <;> first | exact Blk.new_ (by simp) rfl | simp
   have zS:=kS.lt;have zR:=kR.lt;clear hb1 BX;obtain⟨t0,t1⟩:=zc2 kR;obtain⟨tf0,tf1,-⟩:=zf kR;obtain⟨q0,q1⟩:=zc2 kS;go_wp2_with fail;obtain⟨W,hW⟩:∃ W,(w0.setCell ⟨w.heap.size+1,0,none⟩ (.slice none 0 0)).setCell ⟨w.heap.size+1,1,none⟩ (.slice none 0 0)=W:=⟨_,rfl⟩;have kW:Blk W (w.heap.size+1) 25 #[.slice none 0 0,.slice none 0 0]:=by rw[←hW];exact((kR.set_ 0 _).set_ 1 _)
   have bW:Below w.heap.size w W:=by rw[←hW];exact zbl
   rw[hW];clear hW t0 t1;refine bodyPost_ret (by simp[results,Tryz.results110,go_sem,zc2 kW] <;> rfl) rfl ?_;exact StPost.zero bW
  ·have r1b:decide (r<1)=false:=by simpa using r1
   by_cases r2:512<r
   ·have HE:Hid (alcT s r=(.zero,0,15)):=by show _=_;unfold alcT;rw[hzz,if_neg (by simp),if_pos (.inr r2)]
    have r2b:decide (r>512)=true:=by simpa using r2
    rw[HE.out];unfold stV;clear ha hb hzz hok
    go_enter Tryz.func110,Tryz.ntmps110
    go_wp2_with fail;have BX:Below w.heap.size w ((w.alloc (.cells #[.slice A s.refs.length c,.slice B s.busy.length d] 25)).alloc (.cells #[.slice none 0 0,.slice none 0 0] 25)):=zbl;refine (sCheck_any A B c d s _ (HA.out.ext BX) (by omega) (by omega) HZ.out).mono ?_;rintro e1 w0 ⟨rfl,hb1⟩;have B1:Below w.heap.size w w0:=BX.trans (hb1.mono (by simp;omega))
    have kS:Blk w0 w.heap.size 25 #[.slice A s.refs.length c,.slice B s.busy.length d]:=by refine Blk.below_ ?_ hb1 ?_ <;> first | exact Blk.alloc_ (Blk.new_ rfl rfl) _ | (simp;omega) | simp
    have kR:Blk w0 (w.heap.size+1) 25 #[.slice none 0 0,.slice none 0 0]:=by refine Blk.below_ ?_ hb1 ?_ <;> first | exact Blk.new_ (by simp) rfl | simp
    have zS:=kS.lt;have zR:=kR.lt;clear hb1 BX;obtain⟨t0,t1⟩:=zc2 kR;obtain⟨tf0,tf1,-⟩:=zf kR;obtain⟨q0,q1⟩:=zc2 kS;go_wp2_with fail;obtain⟨W,hW⟩:∃ W,(w0.setCell ⟨w.heap.size+1,0,none⟩ (.slice none 0 0)).setCell ⟨w.heap.size+1,1,none⟩ (.slice none 0 0)=W:=⟨_,rfl⟩;have kW:Blk W (w.heap.size+1) 25 #[.slice none 0 0,.slice none 0 0]:=by rw[←hW];exact((kR.set_ 0 _).set_ 1 _)
    have bW:Below w.heap.size w W:=by rw[←hW];exact zbl
    rw[hW];clear hW t0 t1;refine bodyPost_ret (by simp[results,Tryz.results110,go_sem,zc2 kW] <;> rfl) rfl ?_;exact StPost.zero bW
   ·have r2b:decide (r>512)=false:=by simpa using r2
    cases hft:fstT s with
    | none=>
     have HE:Hid (alcT s r=(.zero,0,5)):=by show _=_;unfold alcT;rw[hzz,if_neg (by simp),if_neg (by omega),hft]
     have HFI:Hid (fstI s = -1):=by show _=_;unfold fstI;rw[hft]
     rw[HE.out];unfold stV;clear ha hb hzz hok hft
     go_enter Tryz.func110,Tryz.ntmps110
     go_wp2_with fail;have BX:Below w.heap.size w ((w.alloc (.cells #[.slice A s.refs.length c,.slice B s.busy.length d] 25)).alloc (.cells #[.slice none 0 0,.slice none 0 0] 25)):=zbl;refine (sCheck_any A B c d s _ (HA.out.ext BX) (by omega) (by omega) HZ.out).mono ?_;rintro e1 w0 ⟨rfl,hb1⟩;have B1:Below w.heap.size w w0:=BX.trans (hb1.mono (by simp;omega))
     have kS:Blk w0 w.heap.size 25 #[.slice A s.refs.length c,.slice B s.busy.length d]:=by refine Blk.below_ ?_ hb1 ?_ <;> first | exact Blk.alloc_ (Blk.new_ rfl rfl) _ | (simp;omega) | simp
     have kR:Blk w0 (w.heap.size+1) 25 #[.slice none 0 0,.slice none 0 0]:=by refine Blk.below_ ?_ hb1 ?_ <;> first | exact Blk.new_ (by simp) rfl | simp
     have zS:=kS.lt;have zR:=kR.lt;clear hb1 BX;obtain⟨t0,t1⟩:=zc2 kR;obtain⟨tf0,tf1,-⟩:=zf kR;obtain⟨q0,q1⟩:=zc2 kS;go_wp2_with fail;refine (open_any A B c d s w0 (HA.out.ext B1) (HB.out.ext B1) la HBL.out HRG.out).mono ?_;rintro e2 w1 ⟨M,x,rfl,hF,hMl,hb2⟩;have hMw:w.heap.size+2≤M:=by omega
     have B2:=zbt B1 hb2;replace kR:=kR.below_ hb2 zR;replace zR:=kR.lt;unfold bkV;clear hb2 hMl B1 t0 t1 tf0 tf1 q0 q1;have B1:=B2;obtain⟨t0,t1⟩:=zc2 kR;obtain⟨tf0,tf1,-⟩:=zf kR;go_wp2_with fail;obtain⟨V,hV⟩:∃ V,w1.alloc (.cells #[.int .i64 s.refs.length,.map (some M),.int .u64 (x:Nat),.int .u64 0,.int .u64 0,.int .u64 0] 180)=V:=⟨_,rfl⟩;have HK:Hid (BK V w1.heap.size M s.refs.length s):=by show BK _ _ _ _ _;rw[←hV];exact BK.of_F hF
     replace kR:Blk V (w.heap.size+1) 25 #[.slice none 0 0,.slice none 0 0]:=by rw[←hV];exact kR.alloc_ _
     have BV:Below w.heap.size w V:=by rw[←hV];exact B1.alloc B1.size _
     have zV:V.heap.size=w1.heap.size+1:=by rw[←hV];simp
     have hMlt:=hF.lt;have HF:Hid (BkF s M x V):=by show BkF _ _ _ _;rw[←hV];exact hF.ext ((Below.refl _ _).alloc (Nat.le_refl _) _)
     clear t0 t1 tf0 tf1;obtain⟨t0,t1⟩:=zc2 kR;obtain⟨tf0,tf1,-⟩:=zf kR;have zRV:=kR.lt;rw[hV];clear hV hF;refine (first_any w1.heap.size M s.refs.length s V HK.out rfl la).mono ?_;rw[HFI.out];rintro e3 w3 ⟨rfl,hb3⟩;replace HK:=Lib.hid (HK.out.ext hb3);replace HF:=Lib.hid (HF.out.ext hb3);replace kR:=kR.below_ hb3 zRV;replace BV:=BV.trans (hb3.mono BV.size);have zV3:=hb3.size;clear t0 t1 tf0 tf1 hb3 zRV;have zRV:=kR.lt;obtain⟨t0,t1⟩:=zc2 kR;obtain⟨tf0,tf1,-⟩:=zf kR;go_wp2_with fail;obtain⟨W,hW⟩:∃ W,(w3.setCell ⟨w.heap.size+1,0,none⟩ (.slice none 0 0)).setCell ⟨w.heap.size+1,1,none⟩ (.slice none 0 0)=W:=⟨_,rfl⟩;have kW:Blk W (w.heap.size+1) 25 #[.slice none 0 0,.slice none 0 0]:=by rw[←hW];exact((kR.set_ 0 _).set_ 1 _)
     have bW:Below w.heap.size w W:=by rw[←hW];exact zbl
     rw[hW];clear hW t0 t1;refine bodyPost_ret (by simp[results,Tryz.results110,go_sem,zc2 kW] <;> rfl) rfl ?_;exact StPost.zero bW
    | some k=>
     obtain⟨hk,_,_⟩:=fstT_some hft;obtain⟨S2,hS2⟩:∃ S2,witT s k r true=S2:=⟨_,rfl⟩;have HL2:Hid (S2.refs.length=s.refs.length):=by show _=_;rw[←hS2];simp[witT]
     have HB2:Hid (S2.busy.length=s.busy.length):=by show _=_;rw[←hS2];simp[witT]
     have HE:Hid (alcT s r=(S2,(k:Int),0)):=by show _=_;unfold alcT;rw[hzz,if_neg (by simp),if_neg (by omega),hft,←hS2]
     have HFI:Hid (fstI s=k):=by show _=_;unfold fstI;rw[hft]
     have HS2:=Lib.hid hS2;have HWK:Hid ((Lit.int .i64 (k:Int)).wf=true):=wf_i (by omega);have HWR:Hid ((Lit.int .i64 r).wf=true):=wf_i (by omega);have k0:decide ((k:Int)<0)=false:=by simp
     rw[HE.out];unfold stV;clear ha hb hzz hok hft hS2
     go_enter Tryz.func110,Tryz.ntmps110
     go_wp2_with fail;have BX:Below w.heap.size w ((w.alloc (.cells #[.slice A s.refs.length c,.slice B s.busy.length d] 25)).alloc (.cells #[.slice none 0 0,.slice none 0 0] 25)):=zbl;refine (sCheck_any A B c d s _ (HA.out.ext BX) (by omega) (by omega) HZ.out).mono ?_;rintro e1 w0 ⟨rfl,hb1⟩;have B1:Below w.heap.size w w0:=BX.trans (hb1.mono (by simp;omega))
     have kS:Blk w0 w.heap.size 25 #[.slice A s.refs.length c,.slice B s.busy.length d]:=by refine Blk.below_ ?_ hb1 ?_ <;> first | exact Blk.alloc_ (Blk.new_ rfl rfl) _ | (simp;omega) | simp
     have kR:Blk w0 (w.heap.size+1) 25 #[.slice none 0 0,.slice none 0 0]:=by refine Blk.below_ ?_ hb1 ?_ <;> first | exact Blk.new_ (by simp) rfl | simp
     have zS:=kS.lt;have zR:=kR.lt;clear hb1 BX;obtain⟨t0,t1⟩:=zc2 kR;obtain⟨tf0,tf1,-⟩:=zf kR;obtain⟨q0,q1⟩:=zc2 kS;go_wp2_with fail;refine (open_any A B c d s w0 (HA.out.ext B1) (HB.out.ext B1) la HBL.out HRG.out).mono ?_;rintro e2 w1 ⟨M,x,rfl,hF,hMl,hb2⟩;have hMw:w.heap.size+2≤M:=by omega
     have B2:=zbt B1 hb2;replace kR:=kR.below_ hb2 zR;replace zR:=kR.lt;unfold bkV;clear hb2 hMl B1 t0 t1 tf0 tf1 q0 q1;have B1:=B2;obtain⟨t0,t1⟩:=zc2 kR;obtain⟨tf0,tf1,-⟩:=zf kR;go_wp2_with fail;obtain⟨V,hV⟩:∃ V,w1.alloc (.cells #[.int .i64 s.refs.length,.map (some M),.int .u64 (x:Nat),.int .u64 0,.int .u64 0,.int .u64 0] 180)=V:=⟨_,rfl⟩;have HK:Hid (BK V w1.heap.size M s.refs.length s):=by show BK _ _ _ _ _;rw[←hV];exact BK.of_F hF
     replace kR:Blk V (w.heap.size+1) 25 #[.slice none 0 0,.slice none 0 0]:=by rw[←hV];exact kR.alloc_ _
     have BV:Below w.heap.size w V:=by rw[←hV];exact B1.alloc B1.size _
     have zV:V.heap.size=w1.heap.size+1:=by rw[←hV];simp
     have hMlt:=hF.lt;have HF:Hid (BkF s M x V):=by show BkF _ _ _ _;rw[←hV];exact hF.ext ((Below.refl _ _).alloc (Nat.le_refl _) _)
     clear t0 t1 tf0 tf1;obtain⟨t0,t1⟩:=zc2 kR;obtain⟨tf0,tf1,-⟩:=zf kR;have zRV:=kR.lt;rw[hV];clear hV hF;refine (first_any w1.heap.size M s.refs.length s V HK.out rfl la).mono ?_;rw[HFI.out];rintro e3 w3 ⟨rfl,hb3⟩;replace HK:=Lib.hid (HK.out.ext hb3);replace HF:=Lib.hid (HF.out.ext hb3);replace kR:=kR.below_ hb3 zRV;replace BV:=BV.trans (hb3.mono BV.size);have zV3:=hb3.size;clear t0 t1 tf0 tf1 hb3 zRV;have zRV:=kR.lt;obtain⟨t0,t1⟩:=zc2 kR;obtain⟨tf0,tf1,-⟩:=zf kR;have g1:w3.cell? ⟨w1.heap.size,1,none⟩=some (.map (some M)):=HK.out.mapc;have zg:w1.heap.size<w3.heap.size:=HK.out.lt;obtain⟨cnt,hM,hcn,_,_⟩:=HF.out;have HM:=Lib.hid hM;clear hM
     go_wp2_with (first | (at_mapUpdate;refine wpList_putRf _ rfl _ _ _ rfl M cnt (mR s) rfl HM.out (by unfold maxLen;omega) (k:Int) r rfl rfl HWK.out HWR.out ?_;intro w9 hm9 hg9 hs9;have B9:Below w.heap.size w w9:=below_grown BV hg9 (by omega);replace kR:=kR.kept hg9 (by simp;omega);have zR9:=kR.lt;have zg9:w1.heap.size<w9.heap.size:=(by omega);clear t0 t1 tf0 tf1))
     have hm5:(fun j=>if j=(k:Int) then some r else mR s j)=mR (witT s k r (bsyT s k)):=by rw[mR_wit hk,if_pos (by omega)]
     have HK9:BK w9 w1.heap.size M s.refs.length (witT s k r (bsyT s k)):=HK.out.upd hg9 (by omega) hk HBL.out hm9 (by omega) hm5;have hl9:(witT s k r (bsyT s k)).refs.length=s.refs.length:=by simp[witT]
     have hb9:(witT s k r (bsyT s k)).busy.length=s.busy.length:=by simp[witT]
     refine (bkPut_any w1.heap.size M _ _ k true w9 HK9 (by omega) (by rw[hb9,hl9,HBL.out]) (by omega) (by omega)).mono ?_;rw[refT_wit hk,if_pos rfl,wit_twice,HS2.out];rintro e4 w4 ⟨rfl,HK4,hB4⟩;replace HK4:=Lib.hid HK4;have B4:Below w.heap.size w w4:=B9.trans (hB4 _ B1.size);replace kR:=kR.below_ (hB4 _ (Nat.le_refl _)) zR;have zR4:=kR.lt;clear hB4 hm9 HK9 hl9 hb9;obtain⟨t0,t1⟩:=zc2 kR;obtain⟨tf0,tf1,-⟩:=zf kR;go_wp2_with fail;refine (slots_any w1.heap.size M S2 w4 (by rw[HL2.out];exact HK4.out) (by rw[HL2.out];omega) (by rw[HL2.out];omega) (by rw[HB2.out,HL2.out,HBL.out])).mono ?_;rintro e5 w5 ⟨A2,c2,B2,d2,rfl,oI,oB,hb5⟩;have hs4:=B4.size;have z4R:w.heap.size+2≤w4.heap.size:=by omega
     replace oI:=oI.base_ z4R;replace oB:=oB.base_ z4R;have B5:Below w.heap.size w w5:=B4.trans (hb5.mono hs4);replace kR:=kR.below_ hb5 zR4;have HK5:=Lib.hid (HK4.out.ext hb5);have zR5:=kR.lt;unfold stV;clear t0 t1 tf0 tf1;obtain⟨t0,t1⟩:=zc2 kR;obtain⟨tf0,tf1,-⟩:=zf kR;go_wp2_with fail;obtain⟨W,hW⟩:∃ W,(w5.setCell ⟨w.heap.size+1,0,none⟩ (.slice A2 S2.refs.length c2)).setCell ⟨w.heap.size+1,1,none⟩ (.slice B2 S2.busy.length d2)=W:=⟨_,rfl⟩;have kW:Blk W (w.heap.size+1) 25 #[.slice A2 S2.refs.length c2,.slice B2 S2.busy.length d2]:=by rw[←hW];exact((kR.set_ 0 _).set_ 1 _)
     have bW:Below w.heap.size w W:=by rw[←hW];exact zbl
     have oI8:OwnE intE W (w.heap.size+2) A2 c2 S2.refs:=by rw[←hW];exact(oI.far (by exact Nat.lt_succ_self _) _).far (by exact Nat.lt_succ_self _) _
     have oB8:OwnE boolE W (w.heap.size+2) B2 d2 S2.busy:=by rw[←hW];exact(oB.far (by exact Nat.lt_succ_self _) _).far (by exact Nat.lt_succ_self _) _
     rw[hW];clear hW t0 t1;refine bodyPost_ret (by simp[results,Tryz.results110,go_sem,zc2 kW] <;> rfl) rfl ?_;exact⟨A2,c2,B2,d2,rfl,oI8.base_ (by omega),oB8.base_ (by omega),bW⟩
 ·have HE:Hid (alcT s r=(.zero,0,z)):=by show _=_;unfold alcT;rw[hzz,if_pos z0]
  have zb:(z != 0)=true:=by simpa using z0
  rw[HE.out];unfold stV;clear ha hb hzz z0
  go_enter Tryz.func110,Tryz.ntmps110
  go_wp2_with fail;have BX:Below w.heap.size w ((w.alloc (.cells #[.slice A s.refs.length c,.slice B s.busy.length d] 25)).alloc (.cells #[.slice none 0 0,.slice none 0 0] 25)):=zbl;refine (sCheck_any A B c d s _ (HA.out.ext BX) (by omega) (by omega) HZ.out).mono ?_;rintro e1 w0 ⟨rfl,hb1⟩;have B1:Below w.heap.size w w0:=BX.trans (hb1.mono (by simp;omega))
  have kS:Blk w0 w.heap.size 25 #[.slice A s.refs.length c,.slice B s.busy.length d]:=by refine Blk.below_ ?_ hb1 ?_ <;> first | exact Blk.alloc_ (Blk.new_ rfl rfl) _ | (simp;omega) | simp
  have kR:Blk w0 (w.heap.size+1) 25 #[.slice none 0 0,.slice none 0 0]:=by refine Blk.below_ ?_ hb1 ?_ <;> first | exact Blk.new_ (by simp) rfl | simp
  have zS:=kS.lt;have zR:=kR.lt;clear hb1 BX;obtain⟨t0,t1⟩:=zc2 kR;obtain⟨tf0,tf1,-⟩:=zf kR;obtain⟨q0,q1⟩:=zc2 kS;go_wp2_with fail;obtain⟨W,hW⟩:∃ W,(w0.setCell ⟨w.heap.size+1,0,none⟩ (.slice none 0 0)).setCell ⟨w.heap.size+1,1,none⟩ (.slice none 0 0)=W:=⟨_,rfl⟩;have kW:Blk W (w.heap.size+1) 25 #[.slice none 0 0,.slice none 0 0]:=by rw[←hW];exact((kR.set_ 0 _).set_ 1 _)
  have bW:Below w.heap.size w W:=by rw[←hW];exact zbl
  rw[hW];clear hW t0 t1;refine bodyPost_ret (by simp[results,Tryz.results110,go_sem,zc2 kW] <;> rfl) rfl ?_;exact StPost.zero bW
def IntPost(a b:Int)(w:World)(e:Ending)(w':World):Prop:=e=.returned (.tuple #[.int .i64 a,.int .i64 b])∧Below w.heap.size w w'
theorem sFirst_any(A B:Option Addr)(c d:Nat)(s:Sts)(w:World)(ha:SR intE w A s.refs)(hb:SR boolE w B s.busy)(la:s.refs.length≤40)(lb:s.busy.length≤40) :
  Calls Tryz.prog 100 #[stV A c B d s] w (IntPost (firT s).1 (firT s).2 w):=by
 have HA:=Lib.hid ha;have HB:=Lib.hid hb;obtain⟨⟨z,kz⟩,hzz⟩:∃ z,chkT s=z:=⟨_,rfl⟩;have HZ:=Lib.hid hzz
 by_cases z0:z=0
 ·subst z0
  have hok:=(chkT_ok (s:=s)).1 (by rw[hzz]);have HBL:Hid (s.busy.length=s.refs.length):=hok.blen;have HRG:Hid (∀ r ∈ s.refs,0≤r∧r≤512):=hok.range;obtain⟨f,hf⟩:∃ f,fstI s=f:=⟨_,rfl⟩;have HFI:=Lib.hid hf
  have HE:Hid (firT s=if f<0 then (0,5) else (f,0)):=by
   show _=_;unfold firT;rw[hzz,if_neg (by simp)]
   cases hft:fstT s with
   | none=>
    have:f = -1:=by rw[←hf];unfold fstI;rw[hft]
    rw[this];rfl
   | some k=>
    have:f=k:=by rw[←hf];unfold fstI;rw[hft]
    rw[this,if_neg (by omega)]
  rw[HE.out];unfold stV;clear ha hb hzz hok hf
  by_cases f0:f<0
  ·have f0b:decide (f<0)=true:=by simpa using f0
   have HF0:=Lib.hid f0;clear f0;rw[if_pos HF0.out]
   go_enter Tryz.func100,Tryz.ntmps100
   go_wp2_with fail;have BX:Below w.heap.size w (w.alloc (.cells #[.slice A s.refs.length c,.slice B s.busy.length d] 25)):=zbl;refine (sCheck_any A B c d s _ (HA.out.ext BX) (by omega) (by omega) HZ.out).mono ?_;rintro e1 w0 ⟨rfl,hb1⟩;have B1:Below w.heap.size w w0:=BX.trans (hb1.mono (by simp))
   have kS:Blk w0 w.heap.size 25 #[.slice A s.refs.length c,.slice B s.busy.length d]:=by refine Blk.below_ ?_ hb1 ?_ <;> first | exact Blk.new_ rfl rfl | simp
   have zS:=kS.lt;clear hb1 BX;obtain⟨q0,q1⟩:=zc2 kS;go_wp2_with fail;refine (open_any A B c d s w0 (HA.out.ext B1) (HB.out.ext B1) la HBL.out HRG.out).mono ?_;rintro e2 w1 ⟨M,x,rfl,hF,hMl,hb2⟩;have B2:=zbt B1 hb2;unfold bkV;clear hb2 hMl B1 q0 q1;go_wp2_with fail;obtain⟨V,hV⟩:∃ V,w1.alloc (.cells #[.int .i64 s.refs.length,.map (some M),.int .u64 (x:Nat),.int .u64 0,.int .u64 0,.int .u64 0] 180)=V:=⟨_,rfl⟩;have HK:Hid (BK V w1.heap.size M s.refs.length s):=by show BK _ _ _ _ _;rw[←hV];exact BK.of_F hF
   have BV:Below w.heap.size w V:=by rw[←hV];exact B2.alloc B2.size _
   rw[hV];clear hV hF;refine (first_any w1.heap.size M s.refs.length s V HK.out rfl la).mono ?_;rw[HFI.out];rintro e3 w3 ⟨rfl,hb3⟩;replace BV:=BV.trans (hb3.mono BV.size);go_wp2_with fail;refine bodyPost_ret (by simp[results,Tryz.results100,go_sem] <;> rfl) rfl ?_;exact⟨rfl,BV⟩
  ·have f0b:decide (f<0)=false:=by simpa using f0
   have HF0:=Lib.hid f0;clear f0;rw[if_neg HF0.out]
   go_enter Tryz.func100,Tryz.ntmps100
   go_wp2_with fail;have BX:Below w.heap.size w (w.alloc (.cells #[.slice A s.refs.length c,.slice B s.busy.length d] 25)):=zbl;refine (sCheck_any A B c d s _ (HA.out.ext BX) (by omega) (by omega) HZ.out).mono ?_;rintro e1 w0 ⟨rfl,hb1⟩;have B1:Below w.heap.size w w0:=BX.trans (hb1.mono (by simp))
   have kS:Blk w0 w.heap.size 25 #[.slice A s.refs.length c,.slice B s.busy.length d]:=by refine Blk.below_ ?_ hb1 ?_ <;> first | exact Blk.new_ rfl rfl | simp
   have zS:=kS.lt;clear hb1 BX;obtain⟨q0,q1⟩:=zc2 kS;go_wp2_with fail;refine (open_any A B c d s w0 (HA.out.ext B1) (HB.out.ext B1) la HBL.out HRG.out).mono ?_;rintro e2 w1 ⟨M,x,rfl,hF,hMl,hb2⟩;have B2:=zbt B1 hb2;unfold bkV;clear hb2 hMl B1 q0 q1;go_wp2_with fail;obtain⟨V,hV⟩:∃ V,w1.alloc (.cells #[.int .i64 s.refs.length,.map (some M),.int .u64 (x:Nat),.int .u64 0,.int .u64 0,.int .u64 0] 180)=V:=⟨_,rfl⟩;have HK:Hid (BK V w1.heap.size M s.refs.length s):=by show BK _ _ _ _ _;rw[←hV];exact BK.of_F hF
   have BV:Below w.heap.size w V:=by rw[←hV];exact B2.alloc B2.size _
   rw[hV];clear hV hF;refine (first_any w1.heap.size M s.refs.length s V HK.out rfl la).mono ?_;rw[HFI.out];rintro e3 w3 ⟨rfl,hb3⟩;replace BV:=BV.trans (hb3.mono BV.size);go_wp2_with fail;refine bodyPost_ret (by simp[results,Tryz.results100,go_sem] <;> rfl) rfl ?_;exact⟨rfl,BV⟩
 ·have HE:Hid (firT s=(0,z)):=by show _=_;unfold firT;rw[hzz,if_pos z0]
  have zb:(z != 0)=true:=by simpa using z0
  rw[HE.out];unfold stV;clear ha hb hzz z0
  go_enter Tryz.func100,Tryz.ntmps100
  go_wp2_with fail;refine (sCheck_any A B c d s _ (HA.out.ext ((Below.refl _ w).alloc (Nat.le_refl _) _)) (by omega) (by omega) HZ.out).mono ?_;rintro e1 w0 ⟨rfl,hb1⟩;go_wp2_with fail;refine bodyPost_ret (by simp[results,Tryz.results100,go_sem] <;> rfl) rfl ?_;exact⟨rfl,zbl⟩
theorem laidOutD:laidOutB Tryz.prog=true:=by kernel_rfl
theorem dkK:Keyed Tryz.prog 157:=Keyed.of_law (deep_law_laid laidOutD (m:=3) (by omega) (of_decide_eq_true (by kernel_rfl)) (by kernel_rfl) (by rw[Tryz.underlying157]))
def klD(p:Bool × Int):Lit:=.string (keyBytes [.bool p.1,.int .i64 p.2])
def kvD(p:Bool × Int):Value:=.agg #[.bool p.1,.int .i64 p.2]
theorem dk_lit{p:Bool × Int}(h:(Lit.int .i64 p.2).wf=true):keyOf Tryz.prog 157 (kvD p)=some (klD p):=by
 have hkt:Tryz.prog.keyType 157=true:=by kernel_rfl
 have hco:Tryz.prog.cellsOf 157=2:=by kernel_rfl
 have hci:Tryz.prog.cellsOf 3=1:=by kernel_rfl
 have hcb:Tryz.prog.cellsOf 4=1:=by kernel_rfl
 obtain⟨m,hm⟩:∃ m,Tryz.prog.types.size=m+1:=⟨Tryz.prog.types.size - 1,by kernel_rfl⟩;unfold keyOf kvD;simp only[Tryz.underlying157];rw[if_pos (by simp[hkt,Value.formed,Tryz.underlying157,hco]),hm];unfold Program.keyLits;simp only[Tryz.underlying157,Value.cells];rw[if_pos ⟨by rw[hco];rfl,by kernel_rfl⟩];simp[hci,hcb,Program.keyLits,Tryz.underlying3,Tryz.underlying4,h,klD]
theorem kvD_inj(a b:Bool × Int)(e:kvD a=kvD b):a=b:=by
 simp only[kvD,Value.agg.injEq,Array.mk.injEq,List.cons.injEq,Value.bool.injEq,Value.int.injEq,true_and,and_true] at e;exact Prod.ext e.1 e.2
noncomputable def takT:MTy Tryz.prog (Bool × Int) Bool where
 t:=155
 K:=157
 e:=4
 ht:=Tryz.underlying155
 KK:=dkK
 kv:=kvD
 kl:=klD
 okk k:=(Lit.int .i64 k.2).wf=true
 hkey _ h:=dk_lit h
 kvinj:=kvD_inj
 ev v:=.bool v
 dt v:=.lit (.bool v)
 R:=plainElem Tryz.prog 4
 oke _:=True
 hR v _:=plainElem_bool Tryz.underlying4 v
 hinv u y h:=by
  unfold plainElem at h;rw[Tryz.underlying4] at h
  cases u <;> simp at h
  exact⟨_,rfl,h.symm⟩
 dinj a b h:=by injection h with h;injection h
 z:=false
 okz:=trivial
 hz w:=by first | exact Tryz.zeroValue4 w | simp[go_sem]
noncomputable def jobT:MTy Tryz.prog (Bool × Int) Int where
 t:=220
 K:=157
 e:=3
 ht:=Tryz.underlying220
 KK:=dkK
 kv:=kvD
 kl:=klD
 okk k:=(Lit.int .i64 k.2).wf=true
 hkey _ h:=dk_lit h
 kvinj:=kvD_inj
 ev v:=.int .i64 v
 dt v:=.lit (.int .i64 v)
 R:=plainElem Tryz.prog 3
 oke v:=(Lit.int .i64 v).wf=true
 hR v h:=plainElem_int Tryz.underlying3 h
 hinv u y h:=by obtain⟨a,rfl,rfl,_⟩:=plainElem_int_inv Tryz.underlying3 h;exact⟨a,rfl,rfl⟩
 dinj a b h:=by injection h with h;injection h
 z:=0
 okz:=by decide
 hz w:=by first | exact Tryz.zeroValue3 w | simp[go_sem]
def dkV(A:Option Addr)(c:Nat)(B:Option Addr)(d:Nat)(k:Dsk):Value:=.agg #[.slice A k.cells.length c,.slice B k.jobs.length d,.int .i64 k.room]
theorem dIn_any(A B:Option Addr)(c d n m:Nat)(room slot frame:Int)(w:World):Calls Tryz.prog 121 #[.agg #[.slice A n c,.slice B m d,.int .i64 room],.int .i64 slot,.int .i64 frame] w fun e w'=>e=.returned (.bool (decide (0≤slot∧slot<n∧0≤frame∧frame<256)))∧Below w.heap.size w w':=by
 by_cases h1:0≤slot
 ·have b1:decide (slot≥0)=true:=by simpa using h1
  by_cases h2:slot<n
  ·have b2:decide (slot<(n:Int))=true:=by simpa using h2
   by_cases h3:0≤frame
   ·have b3:decide (frame≥0)=true:=by simpa using h3
    by_cases h4:frame<256
    ·have b4:decide (frame<256)=true:=by simpa using h4
     have e:decide (0≤slot∧slot<n∧0≤frame∧frame<256)=true:=by simp;omega
     rw[e];clear e
     go_enter Tryz.func121,Tryz.ntmps121
     go_wp2_with fail;go_ret;exact⟨rfl,zbl⟩
    ·have b4:decide (frame<256)=false:=by simpa using h4
     have e:decide (0≤slot∧slot<n∧0≤frame∧frame<256)=false:=by simp;omega
     rw[e];clear e
     go_enter Tryz.func121,Tryz.ntmps121
     go_wp2_with fail;go_ret;exact⟨rfl,zbl⟩
   ·have b3:decide (frame≥0)=false:=by simpa using h3
    have e:decide (0≤slot∧slot<n∧0≤frame∧frame<256)=false:=by simp;omega
    rw[e];clear e
    go_enter Tryz.func121,Tryz.ntmps121
    go_wp2_with fail;go_ret;exact⟨rfl,zbl⟩
  ·have b2:decide (slot<(n:Int))=false:=by simpa using h2
   have e:decide (0≤slot∧slot<n∧0≤frame∧frame<256)=false:=by simp;omega
   rw[e];clear e
   go_enter Tryz.func121,Tryz.ntmps121
   go_wp2_with fail;go_ret;exact⟨rfl,zbl⟩
 ·have b1:decide (slot≥0)=false:=by simpa using h1
  have e:decide (0≤slot∧slot<n∧0≤frame∧frame<256)=false:=by simp;omega
  rw[e];clear e
  go_enter Tryz.func121,Tryz.ntmps121
  go_wp2_with fail;go_ret;exact⟨rfl,zbl⟩
theorem plain_u64:Tryz.prog.plainKey 36=true:=by simp[Program.plainKey,Tryz.underlying36]
theorem eqIn_u64(w:World)(d:Nat)(a b:Int):(Op.equalIn (d+1) 36 (.int .u64 a) (.int .u64 b)).run Tryz.prog w=.ok (a == b) w:=by
 simp[Op.equalIn,run_underlying Tryz.underlying36]
theorem eqItems_u64(w:World)(d:Nat):∀ (xs ys:List Int) (pre pre':List Value),pre.length=pre'.length→xs.length=ys.length →
  (Op.eqItems (d+1) 36 1 (pre++xs.map (Value.int .u64)).toArray (pre'++ys.map (Value.int .u64)).toArray (List.range' pre.length xs.length)).run Tryz.prog w=.ok (decide (xs=ys)) w
 | [],[],pre,pre',_,_=>by simp[Op.eqItems]
 | x::xs,y::ys,pre,pre',hp,hl=>by
  have h0:=run_part_plain (xs:=(pre++(x::xs).map (Value.int .u64)).toArray) (off:=pre.length*1) (v:=.int .u64 x) w plain_u64 (by simp);have h1:=run_part_plain (xs:=(pre'++(y::ys).map (Value.int .u64)).toArray) (off:=pre.length*1) (v:=.int .u64 y) w plain_u64 (by rw[hp];simp);have h2:=eqIn_u64 w d x y;have ih:=eqItems_u64 w d xs ys (pre++[.int .u64 x]) (pre'++[.int .u64 y]) (by simp[hp]) (by simpa using hl);rw[List.length_cons,List.range'_succ];simp only[Op.eqItems,Sem.run_bind,h0,h1,Result.andThen_ok,h2]
  by_cases e:x=y
  ·subst e
   simp only[beq_self_eq_true,if_true];simp only[List.append_assoc,List.singleton_append,List.length_append,List.length_singleton] at ih;have e2:decide (x::xs=x::ys)=decide (xs=ys):=by simp
   rw[e2];simpa using ih
  ·have:(x == y)=false:=by simpa using e
   rw[this];simp[e]
def ctL(c:Ct):List Int:=[c.c0,c.c1,c.c2,c.c3,c.c4,c.c5,c.c6,c.c7]
theorem ctL_inj{a b:Ct}:ctL a=ctL b↔a=b:=by
 constructor
 ·intro h
  obtain⟨a0,a1,a2,a3,a4,a5,a6,a7⟩:=a;obtain⟨b0,b1,b2,b3,b4,b5,b6,b7⟩:=b;simp only[ctL,List.cons.injEq] at h;obtain⟨rfl,rfl,rfl,rfl,rfl,rfl,rfl,rfl,_⟩:=h;rfl
 ·rintro rfl;rfl
theorem eq_ct(w:World)(a b:Ct):(Op.equal 38 (ctV a) (ctV b)).run Tryz.prog w=.ok (decide (a=b)) w:=by
 obtain⟨i,hi⟩:∃ i,Tryz.prog.info? 36=some i:=Option.isSome_iff_exists.1 (by kernel_rfl);have hc:Tryz.prog.cellsOf 36=1:=by kernel_rfl
 have h:=eqItems_u64 w 9998 (ctL a) (ctL b) [] [] rfl rfl;have e:decide (ctL a=ctL b)=decide (a=b):=by rw[decide_eq_decide];exact ctL_inj
 rw[e] at h;unfold Op.equal;show (Op.equalIn (9999+1) _ (.agg _) (.agg _)).run _ _=_;rw[run_equalIn_array w 9999 _ _ Tryz.underlying38 hi,hc];exact h
end Go.Proofs.YthijbipidbjpfaaGreatDoor
