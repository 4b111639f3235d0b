import Derived.Test.YthijbipidbjpfaaGreatDoorZP09
import Derived.Test.YthijbipidbjpfaaGreatDoorZP03
import Derived.Test.YthijbipidbjpfaaGreatDoorZP00
set_option linter.unusedSimpArgs false
set_option linter.unusedVariables false
set_option maxRecDepth 100000
set_option maxHeartbeats 8000000
namespace Go.Proofs.YthijbipidbjpfaaGreatDoor
open Go.RowKit Go.Maps
theorem BkF.lt{s:Sts}{M x:Nat}{w:World}(h:BkF s M x w):M<w.heap.size:=by
 obtain⟨cnt,h1,_⟩:=h;exact h1.lt
theorem BK.of_F{s:Sts}{M x:Nat}{w:World}(h:BkF s M x w):BK (w.alloc (.cells #[.int .i64 s.refs.length,.map (some M),.int .u64 (x:Nat),.int .u64 0,.int .u64 0,.int .u64 0] 180)) w.heap.size M s.refs.length s:=by
 obtain⟨cnt,h1,h2,h3,h4⟩:=h;exact⟨x,cnt,⟨Blk.new_ rfl rfl,h1.ext ((Below.refl _ _).alloc (Nat.le_refl _) _)⟩,by omega,h3,h4⟩
theorem bsyT_wit_{s:Sts}{i k:Nat}{r:Int}{b:Bool}(hi:i<s.busy.length):bsyT (witT s i r b) k=if k=i then b else bsyT s k:=by
 unfold bsyT witT;simp only[List.getD_eq_getElem?_getD,List.getElem?_set]
 by_cases e:k=i
 ·subst e;simp[hi]
 ·rw[if_neg e,if_neg (fun h=>e h.symm)]
theorem bkPut_any(b M n:Nat)(s:Sts)(i:Nat)(v:Bool)(w:World)(h:BK w b M n s)(hi:i<s.refs.length)(hb:s.busy.length=s.refs.length)(hl:s.refs.length≤40)(hne:b≠M) :
  Calls Tryz.prog 159 #[.pointer (some ⟨b,2,none⟩),.int .i64 i,.bool v] w fun e w'=>e=.returned (.tuple #[])∧BK w' b M n (witT s i (refT s i) v)∧∀ base,base≤b→Below base w w':=by
 obtain⟨x,cnt,⟨kB,hM⟩,hcn,hx,hxb⟩:=h;have q2:=zc kB 2;refine (put_any b 2 x i v w q2 (kB.frozen_ 2) hx (by omega) kB.lt).mono ?_;rintro e w' ⟨rfl,w1,hb1,rfl⟩;have hlt:=kB.lt;refine⟨rfl,⟨putN x i v,cnt,⟨by simpa using (kB.below_ hb1 hlt).set_ 2 (.int .u64 (putN x i v:Nat)),?_⟩,hcn,putN_lt hx (by omega),fun j => ?_⟩,fun base h=>(hb1.mono (by omega)).setCell (p:=⟨b,2,none⟩) h _⟩
 ·have e:mR (witT s i (refT s i) v)=mR s:=funext fun j=>mR_eq (by rw[refT_wit hi];split;(rename_i e;rw[e]);rfl)
  rw[e];exact(hM.ext hb1).far_ _ (by exact hne)
 ·rw[putN_bit hx,bsyT_wit_ (by omega),hxb]
def StPost(R:Sts)(z:List Value)(w:World)(e:Ending)(w':World):Prop:=∃ A c B d,e=.returned (.tuple (stV A c B d R::z).toArray)∧OwnE intE w' w.heap.size A c R.refs∧OwnE boolE w' w.heap.size B d R.busy∧Below w.heap.size w w'
theorem StPost.zero{w w':World}{z:List Value}(hb:Below w.heap.size w w'):StPost .zero z w (.returned (.tuple (.agg #[.slice none 0 0,.slice none 0 0]::z).toArray)) w':=⟨none,0,none,0,rfl,OwnE.nil,OwnE.nil,hb⟩
theorem ask_ok{s:Sts}{i:Int}(h:askT s i=0):OkT s:=by
 refine chkT_ok.1 ?_;unfold askT at h
 by_cases e:(chkT s).1≠0
 ·rw[if_pos e] at h;exact absurd h e
 ·simpa using e
theorem ref_range{s:Sts}(h:OkT s)(i:Nat):0≤refT s i∧refT s i≤512:=by
 unfold refT;rw[List.getD_eq_getElem?_getD]
 cases hx:s.refs[i]? with
 | none=>simp
 | some x=>exact h.range x (List.mem_of_getElem? hx)
theorem BK.mapc{w:World}{b M n:Nat}{s:Sts}(h:BK w b M n s):w.cell? ⟨b,1,none⟩=some (.map (some M)):=by
 obtain⟨x,cnt,⟨kB,_⟩,_⟩:=h;simpa using kB.cell_ 1
theorem BK.lt{w:World}{b M n:Nat}{s:Sts}(h:BK w b M n s):b<w.heap.size:=by
 obtain⟨x,cnt,⟨kB,_⟩,_⟩:=h;exact kB.lt
theorem BK.upd{w w':World}{b M n cnt:Nat}{s:Sts}{i:Nat}{r:Int}{m:Int→Option Int}(h:BK w b M n s)(hg:w.grownBy w' (some M))(hne:b≠M)(hi:i<s.refs.length)(hb:s.busy.length=s.refs.length)(hm:MapT refM w' M cnt m)(hc:cnt≤100)(e:m=mR (witT s i r (bsyT s i))):BK w' b M n (witT s i r (bsyT s i)):=by
 obtain⟨x,cn,⟨kB,_⟩,_,hx,hxb⟩:=h;refine⟨x,cnt,⟨kB.kept hg (by simpa using hne),e ▸ hm⟩,hc,hx,fun j => ?_⟩;rw[hxb,bsyT_wit_ (by omega)]
 split
 ·rename_i e;rw[e]
 ·rfl
theorem sSettle_any(A B:Option Addr)(c d:Nat)(s:Sts)(i:Int)(w:World)(ha:SR intE w A s.refs)(hb:SR boolE w B s.busy)(la:s.refs.length≤40)(lb:s.busy.length≤40) :
  Calls Tryz.prog 141 #[stV A c B d s,.int .i64 i] w (StPost (setT s i).1 [.bool (setT s i).2.1,.int .i64 (setT s i).2.2] w):=by
 have HA:=Lib.hid ha;have HB:=Lib.hid hb;obtain⟨z,hzz⟩:∃ z,askT s i=z:=⟨_,rfl⟩;have HZ:=Lib.hid hzz
 by_cases z0:z=0
 ·skip
  subst z0;have hok:=ask_ok hzz;obtain⟨hi0,hi1⟩:=(askT_zero hok).1 hzz;obtain⟨k,rfl⟩:∃ k:Nat,i=k:=⟨i.toNat,by omega⟩;have hk:k<s.refs.length:=by omega
  have HBL:Hid (s.busy.length=s.refs.length):=hok.blen;obtain⟨r,hr⟩:∃ r,refT s k=r:=⟨_,rfl⟩;have hrr:=ref_range hok k;rw[hr] at hrr;have HR:=Lib.hid hr
  cases hbv:bsyT s k
  ·have HBV:=Lib.hid hbv
   have HE:Hid (setT s k=(.zero,false,9)):=by show _=_;unfold setT;rw[hzz,if_neg (by simp),Int.toNat_natCast,hbv];rfl
   rw[HE.out];unfold stV;clear ha hb hzz hok hbv hr
   go_enter Tryz.func141,Tryz.ntmps141
   go_wp2_with fail;have BX:Below w.heap.size w ((w.alloc (.cells #[.slice A s.refs.length c,.slice B s.busy.length d] 25)).alloc (.cells #[.slice none 0 0,.slice none 0 0] 25)):=zbl;refine (at_good A B c d s k _ (HA.out.ext BX) (HB.out.ext BX) la HZ.out).mono ?_;rintro e1 w1 ⟨M,x,rfl,hF,hMl,hb1⟩;have hMw:w.heap.size+2≤M:=by have:=hMl;simp at this;omega
   clear hMl;unfold bkV;have B1:Below w.heap.size w w1:=BX.trans (hb1.mono (by simp;omega))
   have kS:Blk w1 w.heap.size 25 #[.slice A s.refs.length c,.slice B s.busy.length d]:=by refine Blk.below_ ?_ hb1 ?_ <;> first | exact Blk.alloc_ (Blk.new_ rfl rfl) _ | (simp;omega) | simp
   have kR:Blk w1 (w.heap.size+1) 25 #[.slice none 0 0,.slice none 0 0]:=by refine Blk.below_ ?_ hb1 ?_ <;> first | exact Blk.new_ (by simp) rfl | simp
   have zS:=kS.lt;have zR:=kR.lt;clear hb1 BX;obtain⟨t0,t1⟩:=zc2 kR;obtain⟨tf0,tf1,-⟩:=zf kR;go_wp2_with fail;obtain⟨V,hV⟩:∃ V,w1.alloc (.cells #[.int .i64 s.refs.length,.map (some M),.int .u64 (x:Nat),.int .u64 0,.int .u64 0,.int .u64 0] 180)=V:=⟨_,rfl⟩;have HK:Hid (BK V w1.heap.size M s.refs.length s):=by show BK _ _ _ _ _;rw[←hV];exact BK.of_F hF
   replace kR:Blk V (w.heap.size+1) 25 #[.slice none 0 0,.slice none 0 0]:=by rw[←hV];exact kR.alloc_ _
   have BV:Below w.heap.size w V:=by rw[←hV];exact B1.alloc B1.size _
   have zV:V.heap.size=w1.heap.size+1:=by rw[←hV];simp
   have hMlt:=hF.lt;have HF:Hid (BkF s M x V):=by show BkF _ _ _ _;rw[←hV];exact hF.ext ((Below.refl _ _).alloc (Nat.le_refl _) _)
   clear t0 t1 tf0 tf1;obtain⟨t0,t1⟩:=zc2 kR;obtain⟨tf0,tf1,-⟩:=zf kR;have zRV:=kR.lt;rw[hV];clear hV hF;go_wp2_with fail;refine (bkHas_any w1.heap.size M _ s k V HK.out (by omega)).mono ?_;rintro e3 w3 ⟨rfl,rfl⟩;rw[HBV.out];go_wp2_with fail;obtain⟨W,hW⟩:∃ W,(V.setCell ⟨w.heap.size+1,0,none⟩ (.slice none 0 0)).setCell ⟨w.heap.size+1,1,none⟩ (.slice none 0 0)=W:=⟨_,rfl⟩;have kW:Blk W (w.heap.size+1) 25 #[.slice none 0 0,.slice none 0 0]:=by rw[←hW];exact((kR.set_ 0 _).set_ 1 _)
   have bW:Below w.heap.size w W:=by rw[←hW];exact zbl
   rw[hW];clear hW t0 t1;refine bodyPost_ret (by simp[results,Tryz.results141,go_sem,zc2 kW] <;> rfl) rfl ?_;exact StPost.zero bW
  ·have HBV:=Lib.hid hbv
   obtain⟨S2,hS2⟩:∃ S2,witT s k r false=S2:=⟨_,rfl⟩;have HL2:Hid (S2.refs.length=s.refs.length):=by show _=_;rw[←hS2];simp[witT]
   have HB2:Hid (S2.busy.length=s.busy.length):=by show _=_;rw[←hS2];simp[witT]
   have HE:Hid (setT s k=(S2,freT S2 k,0)):=by show _=_;unfold setT;rw[hzz,if_neg (by simp),Int.toNat_natCast,hbv,hr,hS2];rfl
   have HS2:=Lib.hid hS2;rw[HE.out];unfold stV;clear ha hb hzz hok hbv hr hS2
   go_enter Tryz.func141,Tryz.ntmps141
   go_wp2_with fail;have BX:Below w.heap.size w ((w.alloc (.cells #[.slice A s.refs.length c,.slice B s.busy.length d] 25)).alloc (.cells #[.slice none 0 0,.slice none 0 0] 25)):=zbl;refine (at_good A B c d s k _ (HA.out.ext BX) (HB.out.ext BX) la HZ.out).mono ?_;rintro e1 w1 ⟨M,x,rfl,hF,hMl,hb1⟩;have hMw:w.heap.size+2≤M:=by have:=hMl;simp at this;omega
   clear hMl;unfold bkV;have B1:Below w.heap.size w w1:=BX.trans (hb1.mono (by simp;omega))
   have kS:Blk w1 w.heap.size 25 #[.slice A s.refs.length c,.slice B s.busy.length d]:=by refine Blk.below_ ?_ hb1 ?_ <;> first | exact Blk.alloc_ (Blk.new_ rfl rfl) _ | (simp;omega) | simp
   have kR:Blk w1 (w.heap.size+1) 25 #[.slice none 0 0,.slice none 0 0]:=by refine Blk.below_ ?_ hb1 ?_ <;> first | exact Blk.new_ (by simp) rfl | simp
   have zS:=kS.lt;have zR:=kR.lt;clear hb1 BX;obtain⟨t0,t1⟩:=zc2 kR;obtain⟨tf0,tf1,-⟩:=zf kR;go_wp2_with fail;obtain⟨V,hV⟩:∃ V,w1.alloc (.cells #[.int .i64 s.refs.length,.map (some M),.int .u64 (x:Nat),.int .u64 0,.int .u64 0,.int .u64 0] 180)=V:=⟨_,rfl⟩;have HK:Hid (BK V w1.heap.size M s.refs.length s):=by show BK _ _ _ _ _;rw[←hV];exact BK.of_F hF
   replace kR:Blk V (w.heap.size+1) 25 #[.slice none 0 0,.slice none 0 0]:=by rw[←hV];exact kR.alloc_ _
   have BV:Below w.heap.size w V:=by rw[←hV];exact B1.alloc B1.size _
   have zV:V.heap.size=w1.heap.size+1:=by rw[←hV];simp
   have hMlt:=hF.lt;have HF:Hid (BkF s M x V):=by show BkF _ _ _ _;rw[←hV];exact hF.ext ((Below.refl _ _).alloc (Nat.le_refl _) _)
   clear t0 t1 tf0 tf1;obtain⟨t0,t1⟩:=zc2 kR;obtain⟨tf0,tf1,-⟩:=zf kR;have zRV:=kR.lt;rw[hV];clear hV hF;go_wp2_with fail;refine (bkHas_any w1.heap.size M _ s k V HK.out (by omega)).mono ?_;rintro e3 w3 ⟨rfl,rfl⟩;rw[HBV.out];go_wp2_with fail;refine (bkPut_any w1.heap.size M _ s k false V HK.out hk HBL.out (by omega) (by omega)).mono ?_;rintro e4 w4 ⟨rfl,HK4,hB4⟩;replace HK4:=Lib.hid HK4;have B4:Below w.heap.size w w4:=BV.trans (hB4 _ B1.size);replace kR:=kR.below_ (hB4 _ (Nat.le_refl _)) zR;have zR4:=kR.lt;clear t0 t1 tf0 tf1 hB4;obtain⟨t0,t1⟩:=zc2 kR;obtain⟨tf0,tf1,-⟩:=zf kR;go_wp2_with fail;rw[HR.out,HS2.out] at HK4;refine (slots_any w1.heap.size M S2 w4 (by rw[HL2.out];exact HK4.out) (by rw[HL2.out];omega) (by rw[HL2.out];omega) (by rw[HB2.out,HL2.out,HBL.out])).mono ?_;rintro e5 w5 ⟨A2,c2,B2,d2,rfl,oI,oB,hb5⟩;have hs4:=B4.size;have z4R:w.heap.size+2≤w4.heap.size:=by omega
   replace oI:=oI.base_ z4R;replace oB:=oB.base_ z4R;have B5:Below w.heap.size w w5:=B4.trans (hb5.mono hs4);replace kR:=kR.below_ hb5 zR4;have HK5:=Lib.hid (HK4.out.ext hb5);have zR5:=kR.lt;unfold stV;clear t0 t1 tf0 tf1;obtain⟨t0,t1⟩:=zc2 kR;obtain⟨tf0,tf1,-⟩:=zf kR;go_wp2_with fail;refine (free_any w1.heap.size M _ S2 k w5 HK5.out (by omega)).mono ?_;rintro e6 w6 ⟨rfl,rfl⟩;go_wp2_with fail;obtain⟨W,hW⟩:∃ W,(w5.setCell ⟨w.heap.size+1,0,none⟩ (.slice A2 S2.refs.length c2)).setCell ⟨w.heap.size+1,1,none⟩ (.slice B2 S2.busy.length d2)=W:=⟨_,rfl⟩;have kW:Blk W (w.heap.size+1) 25 #[.slice A2 S2.refs.length c2,.slice B2 S2.busy.length d2]:=by rw[←hW];exact((kR.set_ 0 _).set_ 1 _)
   have bW:Below w.heap.size w W:=by rw[←hW];exact zbl
   have oI8:OwnE intE W (w.heap.size+2) A2 c2 S2.refs:=by rw[←hW];exact(oI.far (by exact Nat.lt_succ_self _) _).far (by exact Nat.lt_succ_self _) _
   have oB8:OwnE boolE W (w.heap.size+2) B2 d2 S2.busy:=by rw[←hW];exact(oB.far (by exact Nat.lt_succ_self _) _).far (by exact Nat.lt_succ_self _) _
   rw[hW];clear hW t0 t1;refine bodyPost_ret (by simp[results,Tryz.results141,go_sem,zc2 kW] <;> rfl) rfl ?_;exact⟨A2,c2,B2,d2,rfl,oI8.base_ (by omega),oB8.base_ (by omega),bW⟩
 ·have HE:Hid (setT s i=(.zero,false,z)):=by show _=_;unfold setT;rw[hzz,if_pos z0]
  have hz:=z0;have zb:(z != 0)=true:=by simpa using z0
  rw[HE.out];unfold stV;clear ha hb hzz z0
  go_enter Tryz.func141,Tryz.ntmps141
  go_wp2_with fail;have BX:Below w.heap.size w ((w.alloc (.cells #[.slice A s.refs.length c,.slice B s.busy.length d] 25)).alloc (.cells #[.slice none 0 0,.slice none 0 0] 25)):=zbl;refine (at_bad A B c d s i _ (HA.out.ext BX) la lb HZ.out hz).mono ?_;rintro e1 w1 ⟨rfl,hb1⟩;unfold bkZ;have B1:Below w.heap.size w w1:=BX.trans (hb1.mono (by simp;omega))
  have kS:Blk w1 w.heap.size 25 #[.slice A s.refs.length c,.slice B s.busy.length d]:=by refine Blk.below_ ?_ hb1 ?_ <;> first | exact Blk.alloc_ (Blk.new_ rfl rfl) _ | (simp;omega) | simp
  have kR:Blk w1 (w.heap.size+1) 25 #[.slice none 0 0,.slice none 0 0]:=by refine Blk.below_ ?_ hb1 ?_ <;> first | exact Blk.new_ (by simp) rfl | simp
  have zS:=kS.lt;have zR:=kR.lt;clear hb1 BX;obtain⟨t0,t1⟩:=zc2 kR;obtain⟨tf0,tf1,-⟩:=zf kR;go_wp2_with fail;obtain⟨W,hW⟩:∃ W,((w1.setCell ⟨w.heap.size+1,0,none⟩ (.slice none 0 0)).setCell ⟨w.heap.size+1,1,none⟩ (.slice none 0 0)).alloc (.cells #[.int .i64 0,.map none,.int .u64 0,.int .u64 0,.int .u64 0,.int .u64 0] 180)=W:=⟨_,rfl⟩;have kW:Blk W (w.heap.size+1) 25 #[.slice none 0 0,.slice none 0 0]:=by rw[←hW];exact((kR.set_ 0 _).set_ 1 _).alloc_ _
  have bW:Below w.heap.size w W:=by rw[←hW];exact((B1.setCell (p:=⟨w.heap.size+1,0,none⟩) (by show w.heap.size≤w.heap.size+1;omega) _).setCell (p:=⟨w.heap.size+1,1,none⟩) (by show w.heap.size≤w.heap.size+1;omega) _).alloc (by have:=B1.size;simpa using this) _
  rw[hW];clear hW t0 t1 tf0 tf1;refine bodyPost_ret (by simp[results,Tryz.results141,go_sem,zc2 kW] <;> rfl) rfl ?_;exact StPost.zero bW
theorem sRef_any(A B:Option Addr)(c d:Nat)(s:Sts)(i:Int)(w:World)(ha:SR intE w A s.refs)(hb:SR boolE w B s.busy)(la:s.refs.length≤40)(lb:s.busy.length≤40) :
  Calls Tryz.prog 85 #[stV A c B d s,.int .i64 i] w (StPost (addT s i).1 [.int .i64 (addT s i).2] w):=by
 have HA:=Lib.hid ha;have HB:=Lib.hid hb;obtain⟨z,hzz⟩:∃ z,askT s i=z:=⟨_,rfl⟩;have HZ:=Lib.hid hzz
 by_cases z0:z=0
 ·skip
  subst z0;have hok:=ask_ok hzz;obtain⟨hi0,hi1⟩:=(askT_zero hok).1 hzz;obtain⟨k,rfl⟩:∃ k:Nat,i=k:=⟨i.toNat,by omega⟩;have hk:k<s.refs.length:=by omega
  have HBL:Hid (s.busy.length=s.refs.length):=hok.blen;obtain⟨r,hr⟩:∃ r,refT s k=r:=⟨_,rfl⟩;have hrr:=ref_range hok k;rw[hr] at hrr;have HR:=Lib.hid hr
  cases hfv:freT s k
  ·have HFV:=Lib.hid hfv
   by_cases r5:512≤r
   ·have HE:Hid (addT s k=(.zero,15)):=by show _=_;unfold addT;rw[hzz,if_neg (by simp),Int.toNat_natCast,hfv,if_neg (by simp),hr,if_pos r5]
    rw[HE.out];unfold stV;clear ha hb hzz hok hfv hr
    go_enter Tryz.func85,Tryz.ntmps85
    go_wp2_with fail;have BX:Below w.heap.size w ((w.alloc (.cells #[.slice A s.refs.length c,.slice B s.busy.length d] 25)).alloc (.cells #[.slice none 0 0,.slice none 0 0] 25)):=zbl;refine (at_good A B c d s k _ (HA.out.ext BX) (HB.out.ext BX) la HZ.out).mono ?_;rintro e1 w1 ⟨M,x,rfl,hF,hMl,hb1⟩;have hMw:w.heap.size+2≤M:=by have:=hMl;simp at this;omega
    clear hMl;unfold bkV;have B1:Below w.heap.size w w1:=BX.trans (hb1.mono (by simp;omega))
    have kS:Blk w1 w.heap.size 25 #[.slice A s.refs.length c,.slice B s.busy.length d]:=by refine Blk.below_ ?_ hb1 ?_ <;> first | exact Blk.alloc_ (Blk.new_ rfl rfl) _ | (simp;omega) | simp
    have kR:Blk w1 (w.heap.size+1) 25 #[.slice none 0 0,.slice none 0 0]:=by refine Blk.below_ ?_ hb1 ?_ <;> first | exact Blk.new_ (by simp) rfl | simp
    have zS:=kS.lt;have zR:=kR.lt;clear hb1 BX;obtain⟨t0,t1⟩:=zc2 kR;obtain⟨tf0,tf1,-⟩:=zf kR;go_wp2_with fail;obtain⟨V,hV⟩:∃ V,w1.alloc (.cells #[.int .i64 s.refs.length,.map (some M),.int .u64 (x:Nat),.int .u64 0,.int .u64 0,.int .u64 0] 180)=V:=⟨_,rfl⟩;have HK:Hid (BK V w1.heap.size M s.refs.length s):=by show BK _ _ _ _ _;rw[←hV];exact BK.of_F hF
    replace kR:Blk V (w.heap.size+1) 25 #[.slice none 0 0,.slice none 0 0]:=by rw[←hV];exact kR.alloc_ _
    have BV:Below w.heap.size w V:=by rw[←hV];exact B1.alloc B1.size _
    have zV:V.heap.size=w1.heap.size+1:=by rw[←hV];simp
    have hMlt:=hF.lt;have HF:Hid (BkF s M x V):=by show BkF _ _ _ _;rw[←hV];exact hF.ext ((Below.refl _ _).alloc (Nat.le_refl _) _)
    clear t0 t1 tf0 tf1;obtain⟨t0,t1⟩:=zc2 kR;obtain⟨tf0,tf1,-⟩:=zf kR;have zRV:=kR.lt;rw[hV];clear hV hF;have g1:V.cell? ⟨w1.heap.size,1,none⟩=some (.map (some M)):=HK.out.mapc;have zg:w1.heap.size<V.heap.size:=HK.out.lt;have hlk:=HK.out.look k (by omega);rw[HR.out] at hlk;go_wp2_with fail;refine (free_any w1.heap.size M _ s k V HK.out (by omega)).mono ?_;rintro e6 w6 ⟨rfl,rfl⟩;rw[HFV.out];go_wp2_with fail;obtain⟨W,hW⟩:∃ W,(V.setCell ⟨w.heap.size+1,0,none⟩ (.slice none 0 0)).setCell ⟨w.heap.size+1,1,none⟩ (.slice none 0 0)=W:=⟨_,rfl⟩;have kW:Blk W (w.heap.size+1) 25 #[.slice none 0 0,.slice none 0 0]:=by rw[←hW];exact((kR.set_ 0 _).set_ 1 _)
    have bW:Below w.heap.size w W:=by rw[←hW];exact zbl
    rw[hW];clear hW t0 t1;refine bodyPost_ret (by simp[results,Tryz.results85,go_sem,zc2 kW] <;> rfl) rfl ?_;exact StPost.zero bW
   ·have r5b:¬ r≥512:=by omega
    obtain⟨S2,hS2⟩:∃ S2,witT s k (r+1) (bsyT s k)=S2:=⟨_,rfl⟩;have HL2:Hid (S2.refs.length=s.refs.length):=by show _=_;rw[←hS2];simp[witT]
    have HB2:Hid (S2.busy.length=s.busy.length):=by show _=_;rw[←hS2];simp[witT]
    have HE:Hid (addT s k=(S2,0)):=by show _=_;unfold addT;rw[hzz,if_neg (by simp),Int.toNat_natCast,hfv,if_neg (by simp),hr,if_neg r5,hS2]
    have HS2:=Lib.hid hS2;have HWK:Hid ((Lit.int .i64 (k:Int)).wf=true):=wf_i (by omega);have HWR:Hid ((Lit.int .i64 (r+1)).wf=true):=wf_i (by omega);rw[HE.out];unfold stV;clear ha hb hzz hok hfv hr hS2
    go_enter Tryz.func85,Tryz.ntmps85
    go_wp2_with fail;have BX:Below w.heap.size w ((w.alloc (.cells #[.slice A s.refs.length c,.slice B s.busy.length d] 25)).alloc (.cells #[.slice none 0 0,.slice none 0 0] 25)):=zbl;refine (at_good A B c d s k _ (HA.out.ext BX) (HB.out.ext BX) la HZ.out).mono ?_;rintro e1 w1 ⟨M,x,rfl,hF,hMl,hb1⟩;have hMw:w.heap.size+2≤M:=by have:=hMl;simp at this;omega
    clear hMl;unfold bkV;have B1:Below w.heap.size w w1:=BX.trans (hb1.mono (by simp;omega))
    have kS:Blk w1 w.heap.size 25 #[.slice A s.refs.length c,.slice B s.busy.length d]:=by refine Blk.below_ ?_ hb1 ?_ <;> first | exact Blk.alloc_ (Blk.new_ rfl rfl) _ | (simp;omega) | simp
    have kR:Blk w1 (w.heap.size+1) 25 #[.slice none 0 0,.slice none 0 0]:=by refine Blk.below_ ?_ hb1 ?_ <;> first | exact Blk.new_ (by simp) rfl | simp
    have zS:=kS.lt;have zR:=kR.lt;clear hb1 BX;obtain⟨t0,t1⟩:=zc2 kR;obtain⟨tf0,tf1,-⟩:=zf kR;go_wp2_with fail;obtain⟨V,hV⟩:∃ V,w1.alloc (.cells #[.int .i64 s.refs.length,.map (some M),.int .u64 (x:Nat),.int .u64 0,.int .u64 0,.int .u64 0] 180)=V:=⟨_,rfl⟩;have HK:Hid (BK V w1.heap.size M s.refs.length s):=by show BK _ _ _ _ _;rw[←hV];exact BK.of_F hF
    replace kR:Blk V (w.heap.size+1) 25 #[.slice none 0 0,.slice none 0 0]:=by rw[←hV];exact kR.alloc_ _
    have BV:Below w.heap.size w V:=by rw[←hV];exact B1.alloc B1.size _
    have zV:V.heap.size=w1.heap.size+1:=by rw[←hV];simp
    have hMlt:=hF.lt;have HF:Hid (BkF s M x V):=by show BkF _ _ _ _;rw[←hV];exact hF.ext ((Below.refl _ _).alloc (Nat.le_refl _) _)
    clear t0 t1 tf0 tf1;obtain⟨t0,t1⟩:=zc2 kR;obtain⟨tf0,tf1,-⟩:=zf kR;have zRV:=kR.lt;rw[hV];clear hV hF;have g1:V.cell? ⟨w1.heap.size,1,none⟩=some (.map (some M)):=HK.out.mapc;have zg:w1.heap.size<V.heap.size:=HK.out.lt;have hlk:=HK.out.look k (by omega);rw[HR.out] at hlk;obtain⟨cnt,hM,hcn,_,_⟩:=HF.out;have HM:=Lib.hid hM;go_wp2_with fail;refine (free_any w1.heap.size M _ s k V HK.out (by omega)).mono ?_;rintro e6 w6 ⟨rfl,rfl⟩;rw[HFV.out]
    go_wp2_with (first | (at_mapUpdate;refine wpList_putRf _ rfl _ _ _ rfl M cnt (mR s) rfl hM (by unfold maxLen;omega) (k:Int) (r+1) rfl rfl HWK.out HWR.out ?_;intro w4 hm4 hg4 hs4;have B4:Below w.heap.size w w4:=below_grown BV hg4 (by omega);replace kR:=kR.kept hg4 (by simp;omega);have zR4:=kR.lt;have zg4:w1.heap.size<w4.heap.size:=(by omega);clear t0 t1 tf0 tf1))
    have hm5:(fun j=>if j=(k:Int) then some (r+1) else mR s j)=mR (witT s k (r+1) (bsyT s k)):=by rw[mR_wit hk,if_pos (by omega)]
    have HK4:Hid (BK w4 w1.heap.size M s.refs.length S2):=by show BK _ _ _ _ _;rw[←HS2.out];exact HK.out.upd hg4 (by omega) hk HBL.out hm4 (by omega) hm5
    clear hm4;obtain⟨t0,t1⟩:=zc2 kR;obtain⟨tf0,tf1,-⟩:=zf kR;refine (slots_any w1.heap.size M S2 w4 (by rw[HL2.out];exact HK4.out) (by rw[HL2.out];omega) (by rw[HL2.out];omega) (by rw[HB2.out,HL2.out,HBL.out])).mono ?_;rintro e5 w5 ⟨A2,c2,B2,d2,rfl,oI,oB,hb5⟩;have hs4:=B4.size;have z4R:w.heap.size+2≤w4.heap.size:=by omega
    replace oI:=oI.base_ z4R;replace oB:=oB.base_ z4R;have B5:Below w.heap.size w w5:=B4.trans (hb5.mono hs4);replace kR:=kR.below_ hb5 zR4;have HK5:=Lib.hid (HK4.out.ext hb5);have zR5:=kR.lt;unfold stV;clear t0 t1 tf0 tf1;obtain⟨t0,t1⟩:=zc2 kR;obtain⟨tf0,tf1,-⟩:=zf kR;go_wp2_with fail;obtain⟨W,hW⟩:∃ W,(w5.setCell ⟨w.heap.size+1,0,none⟩ (.slice A2 S2.refs.length c2)).setCell ⟨w.heap.size+1,1,none⟩ (.slice B2 S2.busy.length d2)=W:=⟨_,rfl⟩;have kW:Blk W (w.heap.size+1) 25 #[.slice A2 S2.refs.length c2,.slice B2 S2.busy.length d2]:=by rw[←hW];exact((kR.set_ 0 _).set_ 1 _)
    have bW:Below w.heap.size w W:=by rw[←hW];exact zbl
    have oI8:OwnE intE W (w.heap.size+2) A2 c2 S2.refs:=by rw[←hW];exact(oI.far (by exact Nat.lt_succ_self _) _).far (by exact Nat.lt_succ_self _) _
    have oB8:OwnE boolE W (w.heap.size+2) B2 d2 S2.busy:=by rw[←hW];exact(oB.far (by exact Nat.lt_succ_self _) _).far (by exact Nat.lt_succ_self _) _
    rw[hW];clear hW t0 t1;refine bodyPost_ret (by simp[results,Tryz.results85,go_sem,zc2 kW] <;> rfl) rfl ?_;exact⟨A2,c2,B2,d2,rfl,oI8.base_ (by omega),oB8.base_ (by omega),bW⟩
  ·have HFV:=Lib.hid hfv
   have HE:Hid (addT s k=(.zero,9)):=by show _=_;unfold addT;rw[hzz,if_neg (by simp),Int.toNat_natCast,hfv,if_pos rfl]
   rw[HE.out];unfold stV;clear ha hb hzz hok hfv hr
   go_enter Tryz.func85,Tryz.ntmps85
   go_wp2_with fail;have BX:Below w.heap.size w ((w.alloc (.cells #[.slice A s.refs.length c,.slice B s.busy.length d] 25)).alloc (.cells #[.slice none 0 0,.slice none 0 0] 25)):=zbl;refine (at_good A B c d s k _ (HA.out.ext BX) (HB.out.ext BX) la HZ.out).mono ?_;rintro e1 w1 ⟨M,x,rfl,hF,hMl,hb1⟩;have hMw:w.heap.size+2≤M:=by have:=hMl;simp at this;omega
   clear hMl;unfold bkV;have B1:Below w.heap.size w w1:=BX.trans (hb1.mono (by simp;omega))
   have kS:Blk w1 w.heap.size 25 #[.slice A s.refs.length c,.slice B s.busy.length d]:=by refine Blk.below_ ?_ hb1 ?_ <;> first | exact Blk.alloc_ (Blk.new_ rfl rfl) _ | (simp;omega) | simp
   have kR:Blk w1 (w.heap.size+1) 25 #[.slice none 0 0,.slice none 0 0]:=by refine Blk.below_ ?_ hb1 ?_ <;> first | exact Blk.new_ (by simp) rfl | simp
   have zS:=kS.lt;have zR:=kR.lt;clear hb1 BX;obtain⟨t0,t1⟩:=zc2 kR;obtain⟨tf0,tf1,-⟩:=zf kR;go_wp2_with fail;obtain⟨V,hV⟩:∃ V,w1.alloc (.cells #[.int .i64 s.refs.length,.map (some M),.int .u64 (x:Nat),.int .u64 0,.int .u64 0,.int .u64 0] 180)=V:=⟨_,rfl⟩;have HK:Hid (BK V w1.heap.size M s.refs.length s):=by show BK _ _ _ _ _;rw[←hV];exact BK.of_F hF
   replace kR:Blk V (w.heap.size+1) 25 #[.slice none 0 0,.slice none 0 0]:=by rw[←hV];exact kR.alloc_ _
   have BV:Below w.heap.size w V:=by rw[←hV];exact B1.alloc B1.size _
   have zV:V.heap.size=w1.heap.size+1:=by rw[←hV];simp
   have hMlt:=hF.lt;have HF:Hid (BkF s M x V):=by show BkF _ _ _ _;rw[←hV];exact hF.ext ((Below.refl _ _).alloc (Nat.le_refl _) _)
   clear t0 t1 tf0 tf1;obtain⟨t0,t1⟩:=zc2 kR;obtain⟨tf0,tf1,-⟩:=zf kR;have zRV:=kR.lt;rw[hV];clear hV hF;go_wp2_with fail;refine (free_any w1.heap.size M _ s k V HK.out (by omega)).mono ?_;rintro e6 w6 ⟨rfl,rfl⟩;rw[HFV.out];go_wp2_with fail;obtain⟨W,hW⟩:∃ W,(V.setCell ⟨w.heap.size+1,0,none⟩ (.slice none 0 0)).setCell ⟨w.heap.size+1,1,none⟩ (.slice none 0 0)=W:=⟨_,rfl⟩;have kW:Blk W (w.heap.size+1) 25 #[.slice none 0 0,.slice none 0 0]:=by rw[←hW];exact((kR.set_ 0 _).set_ 1 _)
   have bW:Below w.heap.size w W:=by rw[←hW];exact zbl
   rw[hW];clear hW t0 t1;refine bodyPost_ret (by simp[results,Tryz.results85,go_sem,zc2 kW] <;> rfl) rfl ?_;exact StPost.zero bW
 ·have HE:Hid (addT s i=(.zero,z)):=by show _=_;unfold addT;rw[hzz,if_pos z0]
  have hz:=z0;have zb:(z != 0)=true:=by simpa using z0
  rw[HE.out];unfold stV;clear ha hb hzz z0
  go_enter Tryz.func85,Tryz.ntmps85
  go_wp2_with fail;have BX:Below w.heap.size w ((w.alloc (.cells #[.slice A s.refs.length c,.slice B s.busy.length d] 25)).alloc (.cells #[.slice none 0 0,.slice none 0 0] 25)):=zbl;refine (at_bad A B c d s i _ (HA.out.ext BX) la lb HZ.out hz).mono ?_;rintro e1 w1 ⟨rfl,hb1⟩;unfold bkZ;have B1:Below w.heap.size w w1:=BX.trans (hb1.mono (by simp;omega))
  have kS:Blk w1 w.heap.size 25 #[.slice A s.refs.length c,.slice B s.busy.length d]:=by refine Blk.below_ ?_ hb1 ?_ <;> first | exact Blk.alloc_ (Blk.new_ rfl rfl) _ | (simp;omega) | simp
  have kR:Blk w1 (w.heap.size+1) 25 #[.slice none 0 0,.slice none 0 0]:=by refine Blk.below_ ?_ hb1 ?_ <;> first | exact Blk.new_ (by simp) rfl | simp
  have zS:=kS.lt;have zR:=kR.lt;clear hb1 BX;obtain⟨t0,t1⟩:=zc2 kR;obtain⟨tf0,tf1,-⟩:=zf kR;go_wp2_with fail;obtain⟨W,hW⟩:∃ W,((w1.setCell ⟨w.heap.size+1,0,none⟩ (.slice none 0 0)).setCell ⟨w.heap.size+1,1,none⟩ (.slice none 0 0)).alloc (.cells #[.int .i64 0,.map none,.int .u64 0,.int .u64 0,.int .u64 0,.int .u64 0] 180)=W:=⟨_,rfl⟩;have kW:Blk W (w.heap.size+1) 25 #[.slice none 0 0,.slice none 0 0]:=by rw[←hW];exact((kR.set_ 0 _).set_ 1 _).alloc_ _
  have bW:Below w.heap.size w W:=by rw[←hW];exact((B1.setCell (p:=⟨w.heap.size+1,0,none⟩) (by show w.heap.size≤w.heap.size+1;omega) _).setCell (p:=⟨w.heap.size+1,1,none⟩) (by show w.heap.size≤w.heap.size+1;omega) _).alloc (by have:=B1.size;simpa using this) _
  rw[hW];clear hW t0 t1 tf0 tf1;refine bodyPost_ret (by simp[results,Tryz.results85,go_sem,zc2 kW] <;> rfl) rfl ?_;exact StPost.zero bW
end Go.Proofs.YthijbipidbjpfaaGreatDoor
