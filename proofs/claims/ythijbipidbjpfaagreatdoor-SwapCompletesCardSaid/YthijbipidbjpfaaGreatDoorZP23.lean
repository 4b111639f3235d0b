import Derived.Test.YthijbipidbjpfaaGreatDoorZP16
import Derived.Test.YthijbipidbjpfaaGreatDoorZP07
import Derived.Test.YthijbipidbjpfaaGreatDoorZP00
import Derived.Test.YthijbipidbjpfaaGreatDoorZP03
import Derived.Test.YthijbipidbjpfaaGreatDoorZP14
import Derived.Test.YthijbipidbjpfaaGreatDoorZP06
import Derived.Test.YthijbipidbjpfaaGreatDoorZP15
set_option linter.unusedSimpArgs false
set_option linter.unusedVariables false
set_option maxRecDepth 100000
set_option maxHeartbeats 8000000
namespace Go.Proofs.YthijbipidbjpfaaGreatDoor
open Go.RowKit Go.Maps
def LitE(v:Value)(_ _:Nat)(_:World):Prop:=∃ g,v=.slice (some ⟨g,0,none⟩) 0 0
theorem LitE.lasts:(Fk.has LitE).lasts:=fun _ _ _ _ _ h _=>h
theorem step_appF{α:Type}(E:Elt Tryz.prog α){ops:Array Oper}{o:Oper}{a:Act}{K:Act→World→Prop}{Q:Exit→Act→World→Prop}{E':Prop}(hgd:o.guard=none)(s x:Operand)(t:TypeId)(ht:t=E.s)
  (ho:o.op=.call { callee:=.builtin .append,args:=#[s,x],argTypes:=#[t,t] }) (w:World) (g:Nat) (B:Option Addr) (d n:Nat) (k:List α) (hn:n=k.length) (hk:SR E w B k) (hl:k.length≤1000)
  (hs:a.eval s=.slice (some ⟨g,0,none⟩) 0 0) (hx:a.eval x=.slice B n d)
  (hK:∀ A' c' w',OwnE E w' w.heap.size A' c' k→Below w.heap.size w w'→K (a.put o.dst (.slice A' n c')) w') :
  if Region.wanted o (yielded ops a.tmps)=true then Oper.wp Tryz.prog o a w K Q else E':=by
 subst hn ht;obtain⟨A',c',w',hrun,h2,h3,h4⟩:=run_appR E o.type w w.heap.size (Nat.le_refl _) (some ⟨g,0,none⟩) 0 [] (.inl ⟨rfl,SR.nil⟩) B d k hk (by simp;omega);exact step_app hgd s x _ ho w w' _ _ _ hs hx hrun (hK A' c' w' ⟨h2,h4 (.inl rfl)⟩ h3)
theorem kOwnInts_any(A:Option Addr)(c:Nat)(l:List Int)(w:World)(ha:SR intE w A l)(la:l.length≤1000):Calls Tryz.prog 45 #[.slice A l.length c] w (ClnPost intE l w):=by
 have HA:=Lib.hid ha;clear ha
 go_enter Tryz.func45,Tryz.ntmps45
 go_wp2_with (at_builtin;refine wpList_appR intE rfl (.tmp 3) (.tmp 4) _ rfl rfl _ w.heap.size (by simp) (some ⟨w.heap.size,0,none⟩) 0 0 [] rfl (.inl ⟨rfl,SR.nil⟩) A c l.length l rfl (HA.out.ext zbl) (by simp;omega) rfl rfl ?_;intro A' c' w1 hc1 hb1 hm1)
 go_ret;exact⟨A',c',rfl,⟨hc1,hm1 (by simp)⟩,zbl⟩
theorem kOwnSlots_any(A B:Option Addr)(c d:Nat)(s:Sts)(w:World)(ha:SR intE w A s.refs)(hb:SR boolE w B s.busy)(la:s.refs.length≤1000)(lb:s.busy.length≤1000) :
  Calls Tryz.prog 42 #[stV A c B d s] w (BkPost s w):=by
 have HA:=Lib.hid ha;have HB:=Lib.hid hb;unfold stV;clear ha hb;obtain⟨X,hX⟩:∃ X,(w.alloc (.cells #[.slice A s.refs.length c,.slice B s.busy.length d] 25)).alloc (.cells #[.slice none 0 0,.slice none 0 0] 25)=X:=⟨_,rfl⟩;have kD:Blk X w.heap.size 25 #[.slice A s.refs.length c,.slice B s.busy.length d]:=by rw[←hX];exact zbk
 have kT:=za2 hX;have BX:Below w.heap.size w X:=by rw[←hX];exact zbl
 have hXs:X.heap.size=w.heap.size+2:=by rw[←hX];simp
 replace HA:=Lib.hid (HA.out.ext BX);replace HB:=Lib.hid (HB.out.ext BX)
 go_enter Tryz.func42,Tryz.ntmps42
 go_wp2_with fail;(try rw[hX]);clear hX;refine zrg [2,0,1,2,2,0,1,2,0,3] [[],[],[],[],[],[],[],[],[3,7],[]] [.has (LitE),.is ?_,.kn ?_,.has (ClnF intE s.refs s.refs.length),.has (LitE),.is ?_,.kn ?_,.has (ClnF boolE s.busy s.busy.length),.fn [3,7] (fun l=>.agg #[l.getD 0 undef,l.getD 1 undef]),.late] [9] (lts_has (LitE.lasts) (lts_is (lts_kn (lts_has (ClnF.lasts intE s.refs _) (lts_has (LitE.lasts) (lts_is (lts_kn (lts_has (ClnF.lasts boolE s.busy _) (lts_fn (lts_late lts_nil)))))))))) (fun W0 hb0 hz0 => ?_)
 rotate_left 4
 have kW:=kD.below_ hb0 kD.lt;have zW:=kW.lt;have kT0:=kT.below_ hb0 kT.lt;have zX0:w.heap.size≤W0.heap.size:=Nat.le_trans BX.size hb0.size;replace HA:=Lib.hid (HA.out.ext hb0);replace HB:=Lib.hid (HB.out.ext hb0);obtain⟨p0,p1⟩:=zc2 kW;refine zqh (fun w hbw hd K Q' hK => ?_) (fun vks0 => ?_)
 ·clear hd
  go_simp;exact hK.out (.slice (some ⟨w.heap.size,0,none⟩) 0 0) _ _ zpt zbm ⟨_,rfl⟩
 refine zqp ?_;refine zqT (fun w hbw hd => ?_) ?_
 ·have q1:=cell_keep hbw p0 zW
  exact zgs
 refine zqh (fun w hbw hd K Q' hK => ?_) (fun vks3 => ?_)
 ·obtain⟨_,_,g,rfl⟩:∃ lo hi,LitE vks0 lo hi w:=hd 0 _ _ (by kernel_rfl) rfl rfl
  clear hd;refine step_appF intE rfl (.tmp 3) (.tmp 5) _ rfl rfl w g A c s.refs.length s.refs rfl (HA.out.ext hbw) la rfl rfl ?_;intro A' c' y ho hy;exact hK.out (.slice A' s.refs.length c') _ _ zpt zbm ⟨A',c',rfl,ho⟩
 refine zqh (fun w hbw hd K Q' hK => ?_) (fun vks4 => ?_)
 ·clear hd
  go_simp;exact hK.out (.slice (some ⟨w.heap.size,0,none⟩) 0 0) _ _ zpt zbm ⟨_,rfl⟩
 refine zqp ?_;refine zqT (fun w hbw hd => ?_) ?_
 ·have q1:=cell_keep hbw p1 zW
  exact zgs
 refine zqh (fun w hbw hd K Q' hK => ?_) (fun vks7 => ?_)
 ·obtain⟨_,_,g,rfl⟩:∃ lo hi,LitE vks4 lo hi w:=hd 4 _ _ (by kernel_rfl) rfl rfl
  clear hd;refine step_appF boolE rfl (.tmp 7) (.tmp 9) _ rfl rfl w g B d s.busy.length s.busy rfl (HB.out.ext hbw) lb rfl rfl ?_;intro A' c' y ho hy;exact hK.out (.slice A' s.busy.length c') _ _ zpt zbm ⟨A',c',rfl,ho⟩
 refine zqF (.agg #[vks3,vks7]) (fun w0 hd w => ?_) ?_
 ·obtain⟨_,_,A',d',rfl,_⟩:∃ lo hi,ClnF intE s.refs s.refs.length vks3 lo hi w0:=hd 3 _ _ (by kernel_rfl) rfl rfl
  obtain⟨_,_,B',d',rfl,_⟩:∃ lo hi,ClnF boolE s.busy s.busy.length vks7 lo hi w0:=hd 7 _ _ (by kernel_rfl) rfl rfl;exact zsr
 refine zql ?_;refine chn_end (fun wz lo hi hbz hd hR => ?_);obtain⟨A1,d1,rfl,o1⟩:ClnF intE s.refs s.refs.length vks3 (lo 3) (hi 3) wz:=hd 3 _ _ rfl rfl;obtain⟨A2,d2,rfl,o2⟩:ClnF boolE s.busy s.busy.length vks7 (lo 7) (hi 7) wz:=hd 7 _ _ rfl rfl;have r2:=(hR.2 3 _ rfl).1;have r5:=(hR.2 7 _ rfl).1;have zX1:w.heap.size+2≤W0.heap.size:=Nat.le_trans (by rw[hXs];exact Nat.le_refl _) hb0.size;have BZ:Below w.heap.size w wz:=BX.trans ((hb0.trans (hbz.mono hb0.size)).mono BX.size);have kTz:=kT0.below_ hbz kT0.lt;have zTz:=kTz.lt;clear hd hR p0 p1;obtain⟨y0,y1⟩:=zc2 kTz;obtain⟨yf0,yf1,-⟩:=zf kTz;refine late_one (by simp only[zy5,zy6,zy7];rfl) (fun K Q' hK => ?_);go_simp;refine hK.out _ ?_;clear hK K Q';go_wp2_with fail;obtain⟨W,hW⟩:∃ W,setN wz (w.heap.size+1) 0 [.slice A1 s.refs.length d1,.slice A2 s.busy.length d2]=W:=⟨_,rfl⟩;have hWn:World.setCell (World.setCell wz ⟨w.heap.size+1,0,none⟩ (.slice A1 s.refs.length d1)) ⟨w.heap.size+1,1,none⟩ (.slice A2 s.busy.length d2)=W:=hW;have kW:=zsw hW kTz;have bW:=zbw hW BZ (by omega);have o1W:OwnE intE W (w.heap.size+2) A1 d1 s.refs:=by rw[←hW];exact(o1.base_ (by omega)).farN (by exact Nat.lt_succ_self _) _
 have o2W:OwnE boolE W (w.heap.size+2) A2 d2 s.busy:=by rw[←hW];exact(o2.base_ (by omega)).farN (by exact Nat.lt_succ_self _) _
 rw[hWn];clear hWn hW y0 yf0 y1 yf1;refine bodyPost_ret (by simp[results,Tryz.results42,go_sem,zc2 kW] <;> rfl) rfl ?_;exact⟨A1,d1,A2,d2,rfl,o1W.base_ (by omega),o2W.base_ (by omega),bW⟩
theorem kOwnDisk_any(A B:Option Addr)(c d:Nat)(k0:Dsk)(w:World)(ha:SR ctE w A k0.cells)(hb:SR jbE w B k0.jobs)(la:k0.cells.length≤1000)(lb:k0.jobs.length≤1000) :
  Calls Tryz.prog 43 #[dkV A c B d k0] w (DcPost k0 w):=by
 have HA:=Lib.hid ha;have HB:=Lib.hid hb;unfold dkV;clear ha hb;obtain⟨X,hX⟩:∃ X,(w.alloc (.cells #[.slice A k0.cells.length c,.slice B k0.jobs.length d,.int .i64 k0.room] 31)).alloc (.cells #[.slice none 0 0,.slice none 0 0,.int .i64 0] 31)=X:=⟨_,rfl⟩;have kD:Blk X w.heap.size 31 #[.slice A k0.cells.length c,.slice B k0.jobs.length d,.int .i64 k0.room]:=by rw[←hX];exact zbk
 have kT:=za2 hX;have BX:Below w.heap.size w X:=by rw[←hX];exact zbl
 have hXs:X.heap.size=w.heap.size+2:=by rw[←hX];simp
 replace HA:=Lib.hid (HA.out.ext BX);replace HB:=Lib.hid (HB.out.ext BX)
 go_enter Tryz.func43,Tryz.ntmps43
 go_wp2_with fail;(try rw[hX]);clear hX;refine zrg [2,0,1,2,2,0,1,2,0,1,0,3] [[],[],[],[],[],[],[],[],[],[],[3,7],[]] [.has (LitE),.is ?_,.kn ?_,.has (ClnF ctE k0.cells k0.cells.length),.has (LitE),.is ?_,.kn ?_,.has (ClnF jbE k0.jobs k0.jobs.length),.is ?_,.kn ?_,.fn [3,7] (fun l=>.agg #[l.getD 0 undef,l.getD 1 undef,.int .i64 k0.room]),.late] [11] (lts_has (LitE.lasts) (lts_is (lts_kn (lts_has (ClnF.lasts ctE k0.cells _) (lts_has (LitE.lasts) (lts_is (lts_kn (lts_has (ClnF.lasts jbE k0.jobs _) (lts_is (lts_kn (lts_fn (lts_late lts_nil)))))))))))) (fun W0 hb0 hz0 => ?_)
 rotate_left 6
 have kW:=kD.below_ hb0 kD.lt;have zW:=kW.lt;have kT0:=kT.below_ hb0 kT.lt;have zX0:w.heap.size≤W0.heap.size:=Nat.le_trans BX.size hb0.size;replace HA:=Lib.hid (HA.out.ext hb0);replace HB:=Lib.hid (HB.out.ext hb0);obtain⟨p0,p1,p2⟩:=zc3 kW;refine zqh (fun w hbw hd K Q' hK => ?_) (fun vkd0 => ?_)
 ·clear hd
  go_simp;exact hK.out (.slice (some ⟨w.heap.size,0,none⟩) 0 0) _ _ zpt zbm ⟨_,rfl⟩
 refine zqp ?_;refine zqT (fun w hbw hd => ?_) ?_
 ·have q1:=cell_keep hbw p0 zW
  exact zgs
 refine zqh (fun w hbw hd K Q' hK => ?_) (fun vkd3 => ?_)
 ·obtain⟨_,_,g,rfl⟩:∃ lo hi,LitE vkd0 lo hi w:=hd 0 _ _ (by kernel_rfl) rfl rfl
  clear hd;refine step_appF ctE rfl (.tmp 3) (.tmp 5) _ rfl rfl w g A c k0.cells.length k0.cells rfl (HA.out.ext hbw) la rfl rfl ?_;intro A' c' y ho hy;exact hK.out (.slice A' k0.cells.length c') _ _ zpt zbm ⟨A',c',rfl,ho⟩
 refine zqh (fun w hbw hd K Q' hK => ?_) (fun vkd4 => ?_)
 ·clear hd
  go_simp;exact hK.out (.slice (some ⟨w.heap.size,0,none⟩) 0 0) _ _ zpt zbm ⟨_,rfl⟩
 refine zqp ?_;refine zqT (fun w hbw hd => ?_) ?_
 ·have q1:=cell_keep hbw p1 zW
  exact zgs
 refine zqh (fun w hbw hd K Q' hK => ?_) (fun vkd7 => ?_)
 ·obtain⟨_,_,g,rfl⟩:∃ lo hi,LitE vkd4 lo hi w:=hd 4 _ _ (by kernel_rfl) rfl rfl
  clear hd;refine step_appF jbE rfl (.tmp 7) (.tmp 9) _ rfl rfl w g B d k0.jobs.length k0.jobs rfl (HB.out.ext hbw) lb rfl rfl ?_;intro A' c' y ho hy;exact hK.out (.slice A' k0.jobs.length c') _ _ zpt zbm ⟨A',c',rfl,ho⟩
 refine zqp ?_;refine zqT (fun w hbw hd => ?_) ?_
 ·have q1:=cell_keep hbw p2 zW
  exact zgs
 refine zqF (.agg #[vkd3,vkd7,.int .i64 k0.room]) (fun w0 hd w => ?_) ?_
 ·obtain⟨_,_,A',d',rfl,_⟩:∃ lo hi,ClnF ctE k0.cells k0.cells.length vkd3 lo hi w0:=hd 3 _ _ (by kernel_rfl) rfl rfl
  obtain⟨_,_,B',d',rfl,_⟩:∃ lo hi,ClnF jbE k0.jobs k0.jobs.length vkd7 lo hi w0:=hd 7 _ _ (by kernel_rfl) rfl rfl;exact zsr
 refine zql ?_;refine chn_end (fun wz lo hi hbz hd hR => ?_);obtain⟨A1,d1,rfl,o1⟩:ClnF ctE k0.cells k0.cells.length vkd3 (lo 3) (hi 3) wz:=hd 3 _ _ rfl rfl;obtain⟨A2,d2,rfl,o2⟩:ClnF jbE k0.jobs k0.jobs.length vkd7 (lo 7) (hi 7) wz:=hd 7 _ _ rfl rfl;have r2:=(hR.2 3 _ rfl).1;have r5:=(hR.2 7 _ rfl).1;have zX1:w.heap.size+2≤W0.heap.size:=Nat.le_trans (by rw[hXs];exact Nat.le_refl _) hb0.size;have BZ:Below w.heap.size w wz:=BX.trans ((hb0.trans (hbz.mono hb0.size)).mono BX.size);have kTz:=kT0.below_ hbz kT0.lt;have zTz:=kTz.lt;clear hd hR p0 p1 p2;obtain⟨y0,y1,y2⟩:=zc3 kTz;obtain⟨yf0,yf1,yf2,-⟩:=zf kTz;refine late_one (by simp only[zy5,zy6,zy7];rfl) (fun K Q' hK => ?_);go_simp;refine hK.out _ ?_;clear hK K Q';go_wp2_with fail;obtain⟨W,hW⟩:∃ W,setN wz (w.heap.size+1) 0 [.slice A1 k0.cells.length d1,.slice A2 k0.jobs.length d2,.int .i64 k0.room]=W:=⟨_,rfl⟩;have hWn:World.setCell (World.setCell (World.setCell wz ⟨w.heap.size+1,0,none⟩ (.slice A1 k0.cells.length d1)) ⟨w.heap.size+1,1,none⟩ (.slice A2 k0.jobs.length d2)) ⟨w.heap.size+1,2,none⟩ (.int .i64 k0.room)=W:=hW;have kW:=zsw hW kTz;have bW:=zbw hW BZ (by omega);have o1W:OwnE ctE W (w.heap.size+2) A1 d1 k0.cells:=by rw[←hW];exact(o1.base_ (by omega)).farN (by exact Nat.lt_succ_self _) _
 have o2W:OwnE jbE W (w.heap.size+2) A2 d2 k0.jobs:=by rw[←hW];exact(o2.base_ (by omega)).farN (by exact Nat.lt_succ_self _) _
 rw[hWn];clear hWn hW y0 yf0 y1 yf1 y2 yf2;refine bodyPost_ret (by simp[results,Tryz.results43,go_sem,zc3 kW] <;> rfl) rfl ?_;exact⟨A1,d1,A2,d2,rfl,o1W.base_ (by omega),o2W.base_ (by omega),bW⟩
theorem rdOwn_any(A B:Option Addr)(c d:Nat)(k0:Dsk)(w:World)(ha:SR ctE w A k0.cells)(hb:SR jbE w B k0.jobs)(la:k0.cells.length≤1000)(lb:k0.jobs.length≤1000) :
  Calls Tryz.prog 142 #[dkV A c B d k0] w (DcPost k0 w):=by
 have HA:=Lib.hid ha;have HB:=Lib.hid hb;unfold dkV;clear ha hb;obtain⟨X,hX⟩:∃ X,(w.alloc (.cells #[.slice A k0.cells.length c,.slice B k0.jobs.length d,.int .i64 k0.room] 31)).alloc (.cells #[.slice none 0 0,.slice none 0 0,.int .i64 0] 31)=X:=⟨_,rfl⟩;have kD:Blk X w.heap.size 31 #[.slice A k0.cells.length c,.slice B k0.jobs.length d,.int .i64 k0.room]:=by rw[←hX];exact zbk
 have kT:=za2 hX;have BX:Below w.heap.size w X:=by rw[←hX];exact zbl
 have hXs:X.heap.size=w.heap.size+2:=by rw[←hX];simp
 replace HA:=Lib.hid (HA.out.ext BX);replace HB:=Lib.hid (HB.out.ext BX)
 go_enter Tryz.func142,Tryz.ntmps142
 go_wp2_with fail;(try rw[hX]);clear hX;refine zrg [2,0,1,2,2,0,1,2,0,1,0,3] [[],[],[],[],[],[],[],[],[],[],[3,7],[]] [.has (LitE),.is ?_,.kn ?_,.has (ClnF ctE k0.cells k0.cells.length),.has (LitE),.is ?_,.kn ?_,.has (ClnF jbE k0.jobs k0.jobs.length),.is ?_,.kn ?_,.fn [3,7] (fun l=>.agg #[l.getD 0 undef,l.getD 1 undef,.int .i64 k0.room]),.late] [11] (lts_has (LitE.lasts) (lts_is (lts_kn (lts_has (ClnF.lasts ctE k0.cells _) (lts_has (LitE.lasts) (lts_is (lts_kn (lts_has (ClnF.lasts jbE k0.jobs _) (lts_is (lts_kn (lts_fn (lts_late lts_nil)))))))))))) (fun W0 hb0 hz0 => ?_)
 rotate_left 6
 have kW:=kD.below_ hb0 kD.lt;have zW:=kW.lt;have kT0:=kT.below_ hb0 kT.lt;have zX0:w.heap.size≤W0.heap.size:=Nat.le_trans BX.size hb0.size;replace HA:=Lib.hid (HA.out.ext hb0);replace HB:=Lib.hid (HB.out.ext hb0);obtain⟨p0,p1,p2⟩:=zc3 kW;refine zqh (fun w hbw hd K Q' hK => ?_) (fun vrd0 => ?_)
 ·clear hd
  go_simp;exact hK.out (.slice (some ⟨w.heap.size,0,none⟩) 0 0) _ _ zpt zbm ⟨_,rfl⟩
 refine zqp ?_;refine zqT (fun w hbw hd => ?_) ?_
 ·have q1:=cell_keep hbw p0 zW
  exact zgs
 refine zqh (fun w hbw hd K Q' hK => ?_) (fun vrd3 => ?_)
 ·obtain⟨_,_,g,rfl⟩:∃ lo hi,LitE vrd0 lo hi w:=hd 0 _ _ (by kernel_rfl) rfl rfl
  clear hd;refine step_appF ctE rfl (.tmp 3) (.tmp 5) _ rfl rfl w g A c k0.cells.length k0.cells rfl (HA.out.ext hbw) la rfl rfl ?_;intro A' c' y ho hy;exact hK.out (.slice A' k0.cells.length c') _ _ zpt zbm ⟨A',c',rfl,ho⟩
 refine zqh (fun w hbw hd K Q' hK => ?_) (fun vrd4 => ?_)
 ·clear hd
  go_simp;exact hK.out (.slice (some ⟨w.heap.size,0,none⟩) 0 0) _ _ zpt zbm ⟨_,rfl⟩
 refine zqp ?_;refine zqT (fun w hbw hd => ?_) ?_
 ·have q1:=cell_keep hbw p1 zW
  exact zgs
 refine zqh (fun w hbw hd K Q' hK => ?_) (fun vrd7 => ?_)
 ·obtain⟨_,_,g,rfl⟩:∃ lo hi,LitE vrd4 lo hi w:=hd 4 _ _ (by kernel_rfl) rfl rfl
  clear hd;refine step_appF jbE rfl (.tmp 7) (.tmp 9) _ rfl rfl w g B d k0.jobs.length k0.jobs rfl (HB.out.ext hbw) lb rfl rfl ?_;intro A' c' y ho hy;exact hK.out (.slice A' k0.jobs.length c') _ _ zpt zbm ⟨A',c',rfl,ho⟩
 refine zqp ?_;refine zqT (fun w hbw hd => ?_) ?_
 ·have q1:=cell_keep hbw p2 zW
  exact zgs
 refine zqF (.agg #[vrd3,vrd7,.int .i64 k0.room]) (fun w0 hd w => ?_) ?_
 ·obtain⟨_,_,A',d',rfl,_⟩:∃ lo hi,ClnF ctE k0.cells k0.cells.length vrd3 lo hi w0:=hd 3 _ _ (by kernel_rfl) rfl rfl
  obtain⟨_,_,B',d',rfl,_⟩:∃ lo hi,ClnF jbE k0.jobs k0.jobs.length vrd7 lo hi w0:=hd 7 _ _ (by kernel_rfl) rfl rfl;exact zsr
 refine zql ?_;refine chn_end (fun wz lo hi hbz hd hR => ?_);obtain⟨A1,d1,rfl,o1⟩:ClnF ctE k0.cells k0.cells.length vrd3 (lo 3) (hi 3) wz:=hd 3 _ _ rfl rfl;obtain⟨A2,d2,rfl,o2⟩:ClnF jbE k0.jobs k0.jobs.length vrd7 (lo 7) (hi 7) wz:=hd 7 _ _ rfl rfl;have r2:=(hR.2 3 _ rfl).1;have r5:=(hR.2 7 _ rfl).1;have zX1:w.heap.size+2≤W0.heap.size:=Nat.le_trans (by rw[hXs];exact Nat.le_refl _) hb0.size;have BZ:Below w.heap.size w wz:=BX.trans ((hb0.trans (hbz.mono hb0.size)).mono BX.size);have kTz:=kT0.below_ hbz kT0.lt;have zTz:=kTz.lt;clear hd hR p0 p1 p2;obtain⟨y0,y1,y2⟩:=zc3 kTz;obtain⟨yf0,yf1,yf2,-⟩:=zf kTz;refine late_one (by simp only[zy5,zy6,zy7];rfl) (fun K Q' hK => ?_);go_simp;refine hK.out _ ?_;clear hK K Q';go_wp2_with fail;obtain⟨W,hW⟩:∃ W,setN wz (w.heap.size+1) 0 [.slice A1 k0.cells.length d1,.slice A2 k0.jobs.length d2,.int .i64 k0.room]=W:=⟨_,rfl⟩;have hWn:World.setCell (World.setCell (World.setCell wz ⟨w.heap.size+1,0,none⟩ (.slice A1 k0.cells.length d1)) ⟨w.heap.size+1,1,none⟩ (.slice A2 k0.jobs.length d2)) ⟨w.heap.size+1,2,none⟩ (.int .i64 k0.room)=W:=hW;have kW:=zsw hW kTz;have bW:=zbw hW BZ (by omega);have o1W:OwnE ctE W (w.heap.size+2) A1 d1 k0.cells:=by rw[←hW];exact(o1.base_ (by omega)).farN (by exact Nat.lt_succ_self _) _
 have o2W:OwnE jbE W (w.heap.size+2) A2 d2 k0.jobs:=by rw[←hW];exact(o2.base_ (by omega)).farN (by exact Nat.lt_succ_self _) _
 rw[hWn];clear hWn hW y0 yf0 y1 yf1 y2 yf2;refine bodyPost_ret (by simp[results,Tryz.results142,go_sem,zc3 kW] <;> rfl) rfl ?_;exact⟨A1,d1,A2,d2,rfl,o1W.base_ (by omega),o2W.base_ (by omega),bW⟩
theorem rsCheck_any(A B:Option Addr)(c d:Nat)(s:Sts)(w:World)(ha:SR intE w A s.refs)(la:s.refs.length≤1000)(lb:s.busy.length≤1000){z:Int}{k0:Nat}(h:chkT s=(z,k0)) :
  Calls Tryz.prog 114 #[stV A c B d s] w fun e w'=>e=.returned (.tuple #[.int .i64 z,.int .i64 k0])∧Below w.heap.size w w':=by
 obtain⟨refs,busy⟩:=s;dsimp only at *;have HA:=Lib.hid ha.sl;obtain⟨n,hn⟩:∃ n,refs.length=n:=⟨_,rfl⟩;obtain⟨m,hm⟩:∃ m,busy.length=m:=⟨_,rfl⟩;unfold stV;unfold chkT at h;dsimp only at h ⊢;rw[hn,hm] at h ⊢;have HN:=Lib.hid hn;rw[hn] at la;rw[hm] at lb;clear ha hn hm
 by_cases h1:n<1
 ·rw[if_pos (.inl h1)] at h
  cases h
  have i1:(n:Int)<1:=by omega
  go_enter Tryz.func114,Tryz.ntmps114
  go_wp2_with fail;refine bodyPost_ret (by simp[results,Tryz.results114,go_sem] <;> rfl) rfl ?_;exact⟨rfl,zbl⟩
 ·by_cases h2:256<n
  ·rw[if_pos (.inr h2)] at h
   cases h
   have i1:¬ (n:Int)<1:=by omega
   have i2:(256:Int)<n:=by omega
   go_enter Tryz.func114,Tryz.ntmps114
   go_wp2_with fail;refine bodyPost_ret (by simp[results,Tryz.results114,go_sem] <;> rfl) rfl ?_;exact⟨rfl,zbl⟩
  ·rw[if_neg (by omega)] at h
   have i1:¬ (n:Int)<1:=by omega
   have i2:¬ (256:Int)<n:=by omega
   by_cases h3:m≠n
   ·rw[if_pos h3] at h
    cases h
    have i3:((m:Int) != (n:Int))=true:=by simp;omega
    go_enter Tryz.func114,Tryz.ntmps114
    go_wp2_with fail;refine bodyPost_ret (by simp[results,Tryz.results114,go_sem] <;> rfl) rfl ?_;exact⟨rfl,zbl⟩
   ·rw[if_neg h3] at h
    obtain rfl:m=n:=by omega
    have HH:Hid ((match refs.findIdx? (fun r=>decide (r<0∨512<r)) with | none=>((0:Int),0) | some i=>(15,i))=(z,k0)):=h;clear h
    go_enter Tryz.func114,Tryz.ntmps114
    go_wp2_with fail;obtain⟨V,hV⟩:∃ V,w.alloc (.cells #[.slice A m c,.slice B m d] 25)=V:=⟨_,rfl⟩;have kV:Blk V w.heap.size 25 #[.slice A m c,.slice B m d]:=by rw[←hV];exact zbk
    have BV:Below w.heap.size w V:=by rw[←hV];exact zbl
    have zV:=kV.lt;rw[hV];clear hV
    go_loopw [4] (fun i wr=>∃ k:Nat,k≤m∧i=.int .i64 k∧Hid (∀ j y,j<k→refs[j]? = some y→0≤y∧y≤512)∧Below V.heap.size V wr) (fun i _=>m - (intOf i).toNat)
    case atStart=>exact⟨0,by omega,rfl,(fun j y hj=>by omega),Below.refl _ _⟩
    case round=>
     obtain⟨k,hk,rfl,HR,hbw⟩:=hrel;have hb:=zbt BV hbw;have p0:wr.cell? ⟨w.heap.size,0,none⟩=some (.slice A m c):=by simpa using (kV.below_ hbw zV).cell_ 0
     have zr:w.heap.size<wr.heap.size:=Nat.lt_of_lt_of_le zV hbw.size
     by_cases hlt:k<m
     ·obtain⟨b,off,x,rfl,hbl,hx,q0⟩:=(HA.out.ext hb).at_ (k:=k) (by rw[HN.out];exact hlt)
      have i3:(k:Int)<m:=by omega
      by_cases e1:x<0
      ·have hc:=HH.out
       rw[find_at hx HR.out (.inl e1)] at hc
       cases hc
       go_wp2_with fail;refine bodyPost_ret (by simp[results,Tryz.results114,go_sem] <;> rfl) rfl ?_;exact⟨rfl,hb⟩
      ·by_cases e2:512<x
       ·have hc:=HH.out
        rw[find_at hx HR.out (.inr e2)] at hc
        cases hc
        go_wp2_with fail;refine bodyPost_ret (by simp[results,Tryz.results114,go_sem] <;> rfl) rfl ?_;exact⟨rfl,hb⟩
       ·have HR2:Hid (∀ j y,j<k+1→refs[j]? = some y→0≤y∧y≤512):=fun j y hj hy=>by
         by_cases e:j=k
         ·rw[e,hx] at hy;cases hy;omega
         ·exact HR.out j y (by omega) hy
        clear hx;go_wp2_with fail
        go_roundw
        case rel=>exact⟨k+1,by omega,by go_num,HR2.out,hbw⟩
        case measure=>simp[intOf];omega
     ·obtain rfl:k=m:=by omega
      have hc:=HH.out;rw[find_no (fun j y hj=>HR.out j y (by have:=HN.out;omega))] at hc
      cases hc
      go_wp2_with fail;refine bodyPost_ret (by simp[results,Tryz.results114,go_sem] <;> rfl) rfl ?_;exact⟨rfl,hb⟩
theorem rsAsked_any(A B:Option Addr)(c d:Nat)(s:Sts)(i:Int)(w:World)(ha:SR intE w A s.refs)(hok:OkT s) :
  Calls Tryz.prog 145 #[stV A c B d s,.int .i64 i] w fun e w'=>e=.returned (.int .i64 (askT s i))∧Below w.heap.size w w':=by
 have hzz:=chkT_zero hok;obtain⟨l1,l2⟩:=hok.len;have hbl:=hok.blen;obtain⟨z,hz⟩:∃ z,askT s i=z:=⟨_,rfl⟩;rw[hz];unfold askT at hz;rw[hzz,if_neg (by simp)] at hz;have HC:=Lib.hid (fun W h=>rsCheck_any A B c d s W h (by omega) (by omega) hzz);have HA:=Lib.hid ha;clear ha hzz hok hbl;unfold stV at HC ⊢;obtain⟨X,hX⟩:∃ X,w.alloc (.cells #[.slice A s.refs.length c,.slice B s.busy.length d] 25)=X:=⟨_,rfl⟩;have kX:Blk X w.heap.size 25 #[.slice A s.refs.length c,.slice B s.busy.length d]:=by rw[←hX];exact zbk
 have BX:Below w.heap.size w X:=by rw[←hX];exact zbl
 have zX:=kX.lt;obtain⟨q0,q1⟩:=zc2 kX
 by_cases h1:i<0
 ·rw[if_pos (.inl h1)] at hz
  subst hz;have d1:decide (i<0)=true:=by simpa using h1
  clear h1
  go_enter Tryz.func145,Tryz.ntmps145
  go_wp2_with fail;(try rw[hX]);clear hX;refine (HC.out X (HA.out.ext BX)).mono ?_;rintro e1 w1 ⟨rfl,hb1⟩;go_wp2_with fail;go_ret;exact⟨rfl,BX.trans (hb1.mono BX.size)⟩
 ·have d1:decide (i<0)=false:=by simpa using h1
  obtain⟨g,hg⟩:∃ g,decide (i≥(s.refs.length:Int))=g:=⟨_,rfl⟩
  have hzg:z=if g=true then 2 else 0:=by
   rw[←hz,←hg]
   by_cases h2:(s.refs.length:Int)≤i
   ·rw[if_pos (.inr h2),if_pos (by simpa using h2)]
   ·rw[if_neg (by omega),if_neg (by simpa using h2)]
  have HZ:=Lib.hid hzg;clear h1 hz hzg
  go_enter Tryz.func145,Tryz.ntmps145
  go_wp2_with fail;(try rw[hX]);clear hX;refine (HC.out X (HA.out.ext BX)).mono ?_;rintro e1 w1 ⟨rfl,hb1⟩;have kX1:=kX.below_ hb1 zX;have B1:=BX.trans (hb1.mono BX.size);have zX1:=kX1.lt;clear q0 q1 hb1;obtain⟨q0,-⟩:=zc2 kX1
  cases g with
  | true=>
   go_wp2_with fail;go_ret;exact⟨by rw[HZ.out];rfl,B1⟩
  | false=>
   go_wp2_with fail;go_ret;exact⟨by rw[HZ.out];rfl,B1⟩
theorem rsFree_any(A B:Option Addr)(c d:Nat)(s:Sts)(k:Nat)(w:World)(ha:SR intE w A s.refs)(hb:SR boolE w B s.busy)(hk:k<s.refs.length)(hbl:s.busy.length=s.refs.length) :
  Calls Tryz.prog 146 #[stV A c B d s,.int .i64 k] w fun e w'=>e=.returned (.bool (freT s k))∧Below w.heap.size w w':=by
 obtain⟨b1,o1,x1,rfl,hl1,hx1,hc1⟩:=ha.at_ hk;obtain⟨b2,o2,x2,rfl,hl2,hx2,hc2⟩:=hb.at_ (k:=k) (by omega);have c1:=hc1 0 (.int .i64 x1) rfl;have c2:=hc2 0 (.bool x2) rfl;replace c1:w.cell? ⟨b1,o1+k,none⟩=some (.int .i64 x1):=by simpa [show intE.sz=1 from rfl] using c1
 replace c2:w.cell? ⟨b2,o2+k,none⟩=some (.bool x2):=by simpa [show boolE.sz=1 from rfl] using c2
 have HE:Hid (freT s k=(x1 == 0 && !x2)):=by
  show _=_;unfold freT refT bsyT;rw[List.getD_eq_getElem?_getD,hx1,List.getD_eq_getElem?_getD,hx2];rfl
 have i1:(k:Int)<s.refs.length:=by omega
 have i2:(k:Int)<s.busy.length:=by omega
 clear ha hb hx1 hx2 hc1 hc2 hbl;rw[HE.out];unfold stV;have b0:Below w.heap.size w (w.alloc (.cells #[.slice (some ⟨b1,o1,none⟩) s.refs.length c,.slice (some ⟨b2,o2,none⟩) s.busy.length d] 25)):=(Below.refl _ w).alloc (Nat.le_refl _) _;have A1:=cell_keep b0 c1 hl1;have A2:=cell_keep b0 c2 hl2;have z1:b1<w.heap.size+1:=by omega
 have z2:b2<w.heap.size+1:=by omega
 cases e:(x1 == 0) with
 | true=>
  go_enter Tryz.func146,Tryz.ntmps146
  go_wp2_with fail;go_ret;exact⟨by simp,zbl⟩
 | false=>
  go_enter Tryz.func146,Tryz.ntmps146
  go_wp2_with fail;go_ret;exact⟨by simp,zbl⟩
theorem rsWith_any(A B:Option Addr)(c d:Nat)(s:Sts)(k:Nat)(r:Int)(b:Bool)(w:World)(ha:SR intE w A s.refs)(hb:SR boolE w B s.busy)(la:s.refs.length≤1000)(hbl:s.busy.length=s.refs.length)(hk:k<s.refs.length) :
  Calls Tryz.prog 115 #[stV A c B d s,.int .i64 k,.int .i64 r,.bool b] w (BkPost (witT s k r b) w):=by
 have HA:=Lib.hid ha;have HB:=Lib.hid hb;have lb:s.busy.length≤1000:=by omega
 have HBL:=Lib.hid hbl;unfold stV;clear ha hb hbl;obtain⟨X,hX⟩:∃ X,(w.alloc (.cells #[.slice A s.refs.length c,.slice B s.busy.length d] 25)).alloc (.cells #[.slice none 0 0,.slice none 0 0] 25)=X:=⟨_,rfl⟩;have kD:Blk X w.heap.size 25 #[.slice A s.refs.length c,.slice B s.busy.length d]:=by rw[←hX];exact zbk
 have kT:=za2 hX;have BX:Below w.heap.size w X:=by rw[←hX];exact zbl
 have hXs:X.heap.size=w.heap.size+2:=by rw[←hX];simp
 replace HA:=Lib.hid (HA.out.ext BX);replace HB:=Lib.hid (HB.out.ext BX)
 go_enter Tryz.func115,Tryz.ntmps115
 go_wp2_with fail;(try rw[hX]);clear hX;refine zrg [2,0,1,2,2,0,1,2,0,2,3] [[],[],[],[],[],[],[],[],[3,7],[],[]] [.has (LitE),.is ?_,.kn ?_,.has (ClnF intE s.refs s.refs.length),.has (LitE),.is ?_,.kn ?_,.has (ClnF boolE s.busy s.busy.length),.fn [3,7] (fun l=>.agg #[l.getD 0 undef,l.getD 1 undef]),.has (VarN 25 [.slice none 0 0,.slice none 0 0]),.late] [10] (lts_has (LitE.lasts) (lts_is (lts_kn (lts_has (ClnF.lasts intE s.refs _) (lts_has (LitE.lasts) (lts_is (lts_kn (lts_has (ClnF.lasts boolE s.busy _) (lts_fn (lts_has (VarN.lasts 25 [.slice none 0 0,.slice none 0 0]) (lts_late lts_nil))))))))))) (fun W0 hb0 hz0 => ?_)
 rotate_left 4
 have kW:=kD.below_ hb0 kD.lt;have zW:=kW.lt;have kT0:=kT.below_ hb0 kT.lt;replace HA:=Lib.hid (HA.out.ext hb0);replace HB:=Lib.hid (HB.out.ext hb0);obtain⟨p0,p1⟩:=zc2 kW;refine zqh (fun w hbw hd K Q' hK => ?_) (fun vwt0 => ?_)
 ·clear hd
  go_simp;exact hK.out (.slice (some ⟨w.heap.size,0,none⟩) 0 0) _ _ zpt zbm ⟨_,rfl⟩
 refine zqp ?_;refine zqT (fun w hbw hd => ?_) ?_
 ·have q1:=cell_keep hbw p0 zW
  exact zgs
 refine zqh (fun w hbw hd K Q' hK => ?_) (fun vwt3 => ?_)
 ·obtain⟨_,_,g,rfl⟩:∃ lo hi,LitE vwt0 lo hi w:=hd 0 _ _ (by kernel_rfl) rfl rfl
  clear hd;refine step_appF intE rfl (.tmp 10) (.tmp 12) _ rfl rfl w g A c s.refs.length s.refs rfl (HA.out.ext hbw) la rfl rfl ?_;intro A' c' y ho hy;exact hK.out (.slice A' s.refs.length c') _ _ zpt zbm ⟨A',c',rfl,ho⟩
 refine zqh (fun w hbw hd K Q' hK => ?_) (fun vwt4 => ?_)
 ·clear hd
  go_simp;exact hK.out (.slice (some ⟨w.heap.size,0,none⟩) 0 0) _ _ zpt zbm ⟨_,rfl⟩
 refine zqp ?_;refine zqT (fun w hbw hd => ?_) ?_
 ·have q1:=cell_keep hbw p1 zW
  exact zgs
 refine zqh (fun w hbw hd K Q' hK => ?_) (fun vwt7 => ?_)
 ·obtain⟨_,_,g,rfl⟩:∃ lo hi,LitE vwt4 lo hi w:=hd 4 _ _ (by kernel_rfl) rfl rfl
  clear hd;refine step_appF boolE rfl (.tmp 14) (.tmp 16) _ rfl rfl w g B d s.busy.length s.busy rfl (HB.out.ext hbw) lb rfl rfl ?_;intro A' c' y ho hy;exact hK.out (.slice A' s.busy.length c') _ _ zpt zbm ⟨A',c',rfl,ho⟩
 refine zqF (.agg #[vwt3,vwt7]) (fun w0 hd w => ?_) ?_
 ·obtain⟨_,_,A',d',rfl,_⟩:∃ lo hi,ClnF intE s.refs s.refs.length vwt3 lo hi w0:=hd 3 _ _ (by kernel_rfl) rfl rfl
  obtain⟨_,_,B',d',rfl,_⟩:∃ lo hi,ClnF boolE s.busy s.busy.length vwt7 lo hi w0:=hd 7 _ _ (by kernel_rfl) rfl rfl;exact zsr
 refine zqh (fun w hbw hd K Q' hK => ?_) (fun vwt9 => ?_)
 ·clear hd
  go_simp;exact hK.out (.pointer (some ⟨w.heap.size,0,none⟩)) _ _ zpt zbm ⟨_,rfl,Blk.new_ rfl rfl,Nat.le_refl _,by simp⟩
 refine zql ?_;refine chn_end (fun wz lo hi hbz hd hR => ?_);obtain⟨A1,d1,rfl,o1⟩:ClnF intE s.refs s.refs.length vwt3 (lo 3) (hi 3) wz:=hd 3 _ _ rfl rfl;obtain⟨A2,d2,rfl,o2⟩:ClnF boolE s.busy s.busy.length vwt7 (lo 7) (hi 7) wz:=hd 7 _ _ rfl rfl;obtain⟨G,rfl,kG,hlo,hhi⟩:VarN 25 [.slice none 0 0,.slice none 0 0] vwt9 (lo 9) (hi 9) wz:=hd 9 _ _ rfl rfl;have r2:=(hR.2 3 _ rfl).1;have r5:=(hR.2 7 _ rfl).1;have r9:=(hR.2 9 _ rfl).1;have zX1:w.heap.size+2≤W0.heap.size:=Nat.le_trans (by rw[hXs];exact Nat.le_refl _) hb0.size;have BZ:Below w.heap.size w wz:=BX.trans ((hb0.trans (hbz.mono hb0.size)).mono BX.size);have kTz:=kT0.below_ hbz kT0.lt;have zGl:W0.heap.size≤G:=by omega
 have zG:=kG.lt;clear hd hR p0 p1;have y0:=zc kG 0;have y1:=zc kG 1;obtain⟨yf0,yf1,-⟩:=zf kG;refine late_one (by simp only[zy5,zy6,zy7];rfl) (fun K Q' hK => ?_);go_simp;refine hK.out _ ?_;clear hK K Q';obtain⟨V,hV⟩:∃ V,(wz.setCell ⟨G,0,none⟩ (.slice A1 s.refs.length d1)).setCell ⟨G,1,none⟩ (.slice A2 s.busy.length d2)=V:=⟨_,rfl⟩;have kV:Blk V G 25 #[.slice A1 s.refs.length d1,.slice A2 s.busy.length d2]:=by rw[←hV];exact(kG.set_ 0 _).set_ 1 _
 have kTV:Blk V (w.heap.size+1) 25 #[.slice none 0 0,.slice none 0 0]:=by rw[←hV];exact(kTz.far_ (by show w.heap.size+1≠G;omega) _).far_ (by show w.heap.size+1≠G;omega) _
 have BV:Below w.heap.size w V:=by rw[←hV];exact(BZ.setCell (p:=⟨G,0,none⟩) (by show w.heap.size≤G;omega) _).setCell (p:=⟨G,1,none⟩) (by show w.heap.size≤G;omega) _
 have o1V:OwnE intE V W0.heap.size A1 d1 s.refs:=by rw[←hV];exact((o1.base_ r2).farB kG (by decide) 0 _).farB (kG.set_ 0 _) (by decide) 1 _
 have o2V:OwnE boolE V W0.heap.size A2 d2 s.busy:=by rw[←hV];exact((o2.base_ r5).farB kG (by decide) 0 _).farB (kG.set_ 0 _) (by decide) 1 _
 rw[hV];clear hV y0 y1 yf0 yf1 o1 o2;have w1R:OwnR intE V W0.heap.size (.slice A1 s.refs.length d1) s.refs:=o1V.own.resolve_left (fun e=>by rw[e] at hk;simp at hk);have w2R:OwnR boolE V W0.heap.size (.slice A2 s.busy.length d2) s.busy:=o2V.own.resolve_left (fun e=>by have h:=HBL.out;rw[e] at h;simp at h;omega);obtain⟨g1,rfl,hg1,hl1⟩:=w1R.at0 (by omega);obtain⟨g2,rfl,hg2,hl2⟩:=w2R.at0 (by have:=HBL.out;omega);obtain⟨x1,hx1⟩:∃ x,s.refs[k]? = some x:=⟨_,List.getElem?_eq_getElem hk⟩;obtain⟨x2,hx2⟩:∃ x,s.busy[k]? = some x:=⟨_,List.getElem?_eq_getElem (by have:=HBL.out;omega)⟩;obtain⟨c1,f1,_⟩:=OwnR.cell1 (E:=intE) rfl w1R hx1 (v:=.int .i64 x1) rfl;have i1:(k:Int)<s.refs.length:=by omega
 have i2:(k:Int)<s.busy.length:=by have:=HBL.out;omega
 have n12:g1≠g2:=by
  obtain⟨_,k1⟩:=w1R.blk0 hk;obtain⟨_,k2⟩:=w2R.blk0 (k:=k) (by have:=HBL.out;omega);exact k1.ne_ k2 (by decide)
 have n1G:g1≠G:=by
  obtain⟨_,k1⟩:=w1R.blk0 hk;exact k1.ne_ kV (by decide)
 have n2G:g2≠G:=by
  obtain⟨_,k2⟩:=w2R.blk0 (k:=k) (by have:=HBL.out;omega);exact k2.ne_ kV (by decide)
 have zV:=kV.lt;have u0:=zc kV 0;have u1:=zc kV 1;go_upto_region 3 with fail;obtain⟨V2,hV2⟩:∃ W,V.setCell ⟨g1,k,none⟩ (.int .i64 r)=W:=⟨_,rfl⟩;have kV2:Blk V2 G 25 #[.slice (some ⟨g1,0,none⟩) s.refs.length d1,.slice (some ⟨g2,0,none⟩) s.busy.length d2]:=by rw[←hV2];exact kV.far_ (by show G≠g1;exact fun e=>n1G e.symm) _
 have kTV2:Blk V2 (w.heap.size+1) 25 #[.slice none 0 0,.slice none 0 0]:=by rw[←hV2];exact kTV.far_ (by show w.heap.size+1≠g1;omega) _
 have BV2:Below w.heap.size w V2:=by rw[←hV2];exact BV.setCell (p:=⟨g1,k,none⟩) (by show w.heap.size≤g1;omega) _
 have w1R2:OwnR intE V2 W0.heap.size (.slice (some ⟨g1,0,none⟩) s.refs.length d1) (s.refs.set k r):=by rw[←hV2];exact OwnR.set1 (E:=intE) rfl w1R hk r rfl
 have w2R2:OwnR boolE V2 W0.heap.size (.slice (some ⟨g2,0,none⟩) s.busy.length d2) s.busy:=by rw[←hV2];exact w2R.far' (p:=⟨g1,k,none⟩) (by show g2≠g1;exact fun e=>n12 e.symm) _
 rw[hV2];clear hV2 u0 u1 c1 f1;obtain⟨c2,f2,_⟩:=OwnR.cell1 (E:=boolE) rfl w2R2 hx2 (v:=.bool x2) rfl;have zV2:=kV2.lt;obtain⟨u0,u1⟩:=zc2 kV2;go_upto_region 4 with fail;obtain⟨V3,hV3⟩:∃ W,V2.setCell ⟨g2,k,none⟩ (.bool b)=W:=⟨_,rfl⟩;have kV3:Blk V3 G 25 #[.slice (some ⟨g1,0,none⟩) s.refs.length d1,.slice (some ⟨g2,0,none⟩) s.busy.length d2]:=by rw[←hV3];exact kV2.far_ (by show G≠g2;exact fun e=>n2G e.symm) _
 have kTV3:Blk V3 (w.heap.size+1) 25 #[.slice none 0 0,.slice none 0 0]:=by rw[←hV3];exact kTV2.far_ (by show w.heap.size+1≠g2;omega) _
 have BV3:Below w.heap.size w V3:=by rw[←hV3];exact BV2.setCell (p:=⟨g2,k,none⟩) (by show w.heap.size≤g2;omega) _
 have w1R3:OwnR intE V3 W0.heap.size (.slice (some ⟨g1,0,none⟩) s.refs.length d1) (s.refs.set k r):=by rw[←hV3];exact w1R2.far' (p:=⟨g2,k,none⟩) (by show g1≠g2;exact n12) _
 have w2R3:OwnR boolE V3 W0.heap.size (.slice (some ⟨g2,0,none⟩) s.busy.length d2) (s.busy.set k b):=by rw[←hV3];exact OwnR.set1 (E:=boolE) rfl w2R2 (by have:=HBL.out;omega) b rfl
 rw[hV3];clear hV3 u0 u1 c2 f2;have zV3:=kV3.lt;have zT3:=kTV3.lt;obtain⟨u0,u1⟩:=zc2 kV3;obtain⟨t0,t1⟩:=zc2 kTV3;obtain⟨tf0,tf1,-⟩:=zf kTV3;go_wp2_with fail;obtain⟨W,hW⟩:∃ W,setN V3 (w.heap.size+1) 0 [.slice (some ⟨g1,0,none⟩) s.refs.length d1,.slice (some ⟨g2,0,none⟩) s.busy.length d2]=W:=⟨_,rfl⟩;have hWn:World.setCell (World.setCell V3 ⟨w.heap.size+1,0,none⟩ (.slice (some ⟨g1,0,none⟩) s.refs.length d1)) ⟨w.heap.size+1,1,none⟩ (.slice (some ⟨g2,0,none⟩) s.busy.length d2)=W:=hW;have kW:=zsw hW kTV3;have bW:=zbw hW BV3 (by omega);have o1W:OwnE intE W (w.heap.size+2) (some ⟨g1,0,none⟩) d1 (s.refs.set k r):=by rw[←hW];exact((OwnE.of_own w1R3 (by simp)).base_ (by omega)).farN (by exact Nat.lt_succ_self _) _
 have o2W:OwnE boolE W (w.heap.size+2) (some ⟨g2,0,none⟩) d2 (s.busy.set k b):=by rw[←hW];exact((OwnE.of_own w2R3 (by simp)).base_ (by omega)).farN (by exact Nat.lt_succ_self _) _
 rw[hWn];clear hWn hW t0 t1 tf0 tf1 u0 u1;refine bodyPost_ret (by simp[results,Tryz.results115,go_sem,zc2 kW] <;> rfl) rfl ?_;exact⟨_,d1,_,d2,by simp[stV,witT],o1W.base_ (by omega),o2W.base_ (by omega),bW⟩
def SwP1(R:Swp)(w:World)(e:Ending)(w':World):Prop:=∃ L,e=.returned (swV L R)∧SwO w' w.heap.size L R∧Below w.heap.size w w'
theorem rwOwn_any(L:Lay)(s:Swp)(w:World)(h:SwR w L s)(hf:Few s):Calls Tryz.prog 54 #[swV L s] w (SwP1 s w):=by
 obtain⟨a0,c0,a1,c1,a2,c2,a3,c3,a4,c4,a5,c5,a6,c6,a7,c7⟩:=L;have HS:=Lib.hid h;obtain⟨f0,f1,f2,f3,f4,f5,f6,f7⟩:=hf;clear h;unfold swV swC;obtain⟨X,hX⟩:∃ X,(w.alloc (.cells (zkx s a0 c0 a1 c1 a2 c2 a3 c3 a4 c4 a5 c5 a6 c6 a7 c7).toArray 35)).alloc (.cells zkz.toArray 35)=X:=⟨_,rfl⟩;have kX:=za1 hX;have kR:=za2 hX;have BX:Below w.heap.size w X:=by rw[←hX];exact zbl
 go_enter Tryz.func54,Tryz.ntmps54
 go_wp2_with fail;(try rw[hX]);clear hX;refine zrg [2,0,0,1,2,2,0,0,1,2,0,0,3] [[],[],[],[],[],[],[],[],[],[],[4,9],[],[]] [.has (LitE),.is ?_,.is ?_,.kn ?_,.has (ClnF intE s.sl.refs s.sl.refs.length),.has (LitE),.is ?_,.is ?_,.kn ?_,.has (ClnF boolE s.sl.busy s.sl.busy.length),.fn [4,9] (fun l=>.agg #[l.getD 0 undef,l.getD 1 undef]),.is ?_,.late] [12] (lts_has (LitE.lasts) (lts_is (lts_is (lts_kn (lts_has (ClnF.lasts intE s.sl.refs _) (lts_has (LitE.lasts) (lts_is (lts_is (lts_kn (lts_has (ClnF.lasts boolE s.sl.busy _) (lts_fn (lts_is (lts_late lts_nil))))))))))))) (fun W0 hb0 hz0 => ?_)
 rotate_left 7
 have kW:=kX.below_ hb0 kX.lt;have zW:=kW.lt;have kR0:=kR.below_ hb0 kR.lt;have H0:=Lib.hid ((HS.out.r0.ext BX).ext hb0);have H1:=Lib.hid ((HS.out.r1.ext BX).ext hb0);obtain⟨-,p1,p2,-⟩:=zc11 kW;refine zqh (fun w hbw hd K Q' hK => ?_) (fun vow0 => ?_)
 ·clear hd
  go_simp;exact hK.out (.slice (some ⟨w.heap.size,0,none⟩) 0 0) _ _ zpt zbm ⟨_,rfl⟩
 refine zqp ?_;refine zqp ?_;refine zqT (fun w hbw hd => ?_) ?_
 ·have q1:=cell_keep hbw p1 zW
  exact zgs
 refine zqh (fun w hbw hd K Q' hK => ?_) (fun vow4 => ?_)
 ·obtain⟨_,_,g,rfl⟩:∃ lo hi,LitE vow0 lo hi w:=hd 0 _ _ (by kernel_rfl) rfl rfl
  clear hd;refine step_appF intE rfl (.tmp 3) (.tmp 6) _ rfl rfl w g a0 c0 s.sl.refs.length s.sl.refs rfl (H0.out.ext hbw) (by omega) rfl rfl ?_;intro A' c' y ho hy;exact hK.out (.slice A' s.sl.refs.length c') _ _ zpt zbm ⟨A',c',rfl,ho⟩
 refine zqh (fun w hbw hd K Q' hK => ?_) (fun vow5 => ?_)
 ·clear hd
  go_simp;exact hK.out (.slice (some ⟨w.heap.size,0,none⟩) 0 0) _ _ zpt zbm ⟨_,rfl⟩
 refine zqp ?_;refine zqp ?_;refine zqT (fun w hbw hd => ?_) ?_
 ·have q1:=cell_keep hbw p2 zW
  exact zgs
 refine zqh (fun w hbw hd K Q' hK => ?_) (fun vow9 => ?_)
 ·obtain⟨_,_,g,rfl⟩:∃ lo hi,LitE vow5 lo hi w:=hd 5 _ _ (by kernel_rfl) rfl rfl
  clear hd;refine step_appF boolE rfl (.tmp 8) (.tmp 11) _ rfl rfl w g a1 c1 s.sl.busy.length s.sl.busy rfl (H1.out.ext hbw) (by omega) rfl rfl ?_;intro A' c' y ho hy;exact hK.out (.slice A' s.sl.busy.length c') _ _ zpt zbm ⟨A',c',rfl,ho⟩
 refine zqF (.agg #[vow4,vow9]) (fun w0 hd w => ?_) ?_
 ·obtain⟨_,_,A',d',rfl,_⟩:∃ lo hi,ClnF intE s.sl.refs s.sl.refs.length vow4 lo hi w0:=hd 4 _ _ (by kernel_rfl) rfl rfl
  obtain⟨_,_,B',d',rfl,_⟩:∃ lo hi,ClnF boolE s.sl.busy s.sl.busy.length vow9 lo hi w0:=hd 9 _ _ (by kernel_rfl) rfl rfl;exact zsr
 refine zqp ?_;refine zql ?_;refine chn_end (fun wz lo hi hbz hd hR => ?_);obtain⟨b0,d0,rfl,o0⟩:ClnF intE s.sl.refs s.sl.refs.length vow4 (lo 4) (hi 4) wz:=hd 4 _ _ rfl rfl;obtain⟨b1,d1,rfl,o1⟩:ClnF boolE s.sl.busy s.sl.busy.length vow9 (lo 9) (hi 9) wz:=hd 9 _ _ rfl rfl;have r4:=(hR.2 4 _ rfl).1;have r9:=(hR.2 9 _ rfl).1;have zX1:w.heap.size+1<W0.heap.size:=kR0.lt;have BZ:Below w.heap.size w wz:=BX.trans ((hb0.trans (hbz.mono hb0.size)).mono BX.size);have kZ:=kW.below_ hbz zW;have kRZ:=kR0.below_ hbz zX1;have zZ:=kZ.lt;have zzz:=hbz.size;clear hd hR p1 p2;obtain⟨-,y1,y2,-⟩:=zc11 kZ;obtain⟨-,yf1,yf2,-⟩:=zf kZ;refine late_one (by simp only[zy5,zy6,zy7];rfl) (fun K Q' hK => ?_);go_simp;refine hK.out _ ?_;clear hK K Q';obtain⟨X2,hX2⟩:∃ V,setN wz w.heap.size 1 [.slice b0 s.sl.refs.length d0,.slice b1 s.sl.busy.length d1]=V:=⟨_,rfl⟩;have hX2n:World.setCell (World.setCell wz ⟨w.heap.size,1,none⟩ (.slice b0 s.sl.refs.length d0)) ⟨w.heap.size,2,none⟩ (.slice b1 s.sl.busy.length d1)=X2:=hX2;have kS2:Blk X2 w.heap.size 35 (zkx s b0 d0 b1 d1 a2 c2 a3 c3 a4 c4 a5 c5 a6 c6 a7 c7).toArray:=by rw[←hX2];exact(Blk.set_ (Blk.set_ kZ 1 _) 2 _)
 have kR2:Blk X2 (w.heap.size+1) 35 zkz.toArray:=by rw[←hX2];exact kRZ.kept (grown_setN _ _ _ _) (by simp)
 have BX2:Below w.heap.size w X2:=by rw[←hX2];exact below_setN BZ (Nat.le_refl _) _
 replace o0:OwnE intE X2 (w.heap.size+2) b0 d0 s.sl.refs:=by rw[←hX2];exact(o0.base_ (by omega)).farN (by omega) _
 replace o1:OwnE boolE X2 (w.heap.size+2) b1 d1 s.sl.busy:=by rw[←hX2];exact(o1.base_ (by omega)).farN (by omega) _
 have zz2:w.heap.size+1<X2.heap.size:=kR2.lt;rw[hX2n];clear hX2n hX2 y1 y2 yf1 yf2 kZ kRZ;have zq2:=kS2.lt;obtain⟨-,-,-,q2_3,-⟩:=zc11 kS2
 go_upto_region 3 with (at_builtin;refine wpList_appR wrE rfl (.tmp 15) (.tmp 17) _ rfl rfl _ X2.heap.size (by simp) (some ⟨X2.heap.size,0,none⟩) 0 0 [] rfl (.inl ⟨rfl,SR.nil⟩) a2 c2 s.wr.length s.wr rfl ((HS.out.r2.ext BX2).ext ((Below.refl _ _).alloc (Nat.le_refl _) _)) (by simp;omega) rfl rfl ?_;intro b2 d2 w2 hc2 hb2 hm2;have kT2:=(kS2.alloc_ _).below_ hb2 zq2;have kU2:=(kR2.alloc_ _).below_ hb2 zz2;have zt2:=kT2.lt;have t2_3:w2.cell? ⟨w.heap.size,3,none⟩=some (.slice a2 s.wr.length c2):=(by simpa using kT2.cell_ 3);have tf2_3:=kT2.frozen_ 3)
 have hbb2:Below X2.heap.size X2 w2:=Below.trans ((Below.refl _ _).alloc (Nat.le_refl _) _) hb2;have o2:OwnE wrE w2 X2.heap.size b2 d2 s.wr:=⟨hc2,hm2 (.inl rfl)⟩;obtain⟨X3,hX3⟩:∃ V,w2.setCell ⟨w.heap.size,3,none⟩ (.slice b2 s.wr.length d2)=V:=⟨_,rfl⟩;have kS3:Blk X3 w.heap.size 35 (zkx s b0 d0 b1 d1 b2 d2 a3 c3 a4 c4 a5 c5 a6 c6 a7 c7).toArray:=by rw[←hX3];exact kT2.set_ 3 _
 have kR3:Blk X3 (w.heap.size+1) 35 zkz.toArray:=by rw[←hX3];exact kU2.far_ (by simp) _
 have BX3:Below w.heap.size w X3:=by rw[←hX3];exact(BX2.trans (hbb2.mono BX2.size)).setCell (p:=⟨w.heap.size,3,none⟩) (Nat.le_refl _) _
 have sz3:X2.heap.size≤X3.heap.size:=by rw[←hX3];simpa [World.setCell] using hbb2.size
 have zz3:w.heap.size+1<X3.heap.size:=kR3.lt;replace o2:OwnE wrE X3 X2.heap.size b2 d2 s.wr:=by rw[←hX3];exact o2.far zq2 _
 replace o0:OwnE intE X3 (w.heap.size+2) b0 d0 s.sl.refs:=by rw[←hX3];exact(o0.ext hbb2).far (by show w.heap.size<w.heap.size+2;omega) _
 replace o1:OwnE boolE X3 (w.heap.size+2) b1 d1 s.sl.busy:=by rw[←hX3];exact(o1.ext hbb2).far (by show w.heap.size<w.heap.size+2;omega) _
 have u0:OwnE intE X3 (w.heap.size+2) b0 d0 s.sl.refs:=o0;rw[hX3];clear hX3 hb2 hbb2 hc2 hm2 kT2 kU2 q2_3 t2_3 tf2_3 kS2 kR2;have zq3:=kS3.lt;obtain⟨-,-,-,-,q3_4,-⟩:=zc11 kS3
 go_upto_region 4 with (at_builtin;refine wpList_appR rdE rfl (.tmp 20) (.tmp 22) _ rfl rfl _ X3.heap.size (by simp) (some ⟨X3.heap.size,0,none⟩) 0 0 [] rfl (.inl ⟨rfl,SR.nil⟩) a3 c3 s.rd.length s.rd rfl ((HS.out.r3.ext BX3).ext ((Below.refl _ _).alloc (Nat.le_refl _) _)) (by simp;omega) rfl rfl ?_;intro b3 d3 w3 hc3 hb3 hm3;have kT3:=(kS3.alloc_ _).below_ hb3 zq3;have kU3:=(kR3.alloc_ _).below_ hb3 zz3;have zt3:=kT3.lt;have t3_4:w3.cell? ⟨w.heap.size,4,none⟩=some (.slice a3 s.rd.length c3):=(by simpa using kT3.cell_ 4);have tf3_4:=kT3.frozen_ 4)
 have hbb3:Below X3.heap.size X3 w3:=Below.trans ((Below.refl _ _).alloc (Nat.le_refl _) _) hb3;have o3:OwnE rdE w3 X3.heap.size b3 d3 s.rd:=⟨hc3,hm3 (.inl rfl)⟩;obtain⟨X4,hX4⟩:∃ V,w3.setCell ⟨w.heap.size,4,none⟩ (.slice b3 s.rd.length d3)=V:=⟨_,rfl⟩;have kS4:Blk X4 w.heap.size 35 (zkx s b0 d0 b1 d1 b2 d2 b3 d3 a4 c4 a5 c5 a6 c6 a7 c7).toArray:=by rw[←hX4];exact kT3.set_ 4 _
 have kR4:Blk X4 (w.heap.size+1) 35 zkz.toArray:=by rw[←hX4];exact kU3.far_ (by simp) _
 have BX4:Below w.heap.size w X4:=by rw[←hX4];exact(BX3.trans (hbb3.mono BX3.size)).setCell (p:=⟨w.heap.size,4,none⟩) (Nat.le_refl _) _
 have sz4:X3.heap.size≤X4.heap.size:=by rw[←hX4];simpa [World.setCell] using hbb3.size
 have zz4:w.heap.size+1<X4.heap.size:=kR4.lt;replace o3:OwnE rdE X4 X3.heap.size b3 d3 s.rd:=by rw[←hX4];exact o3.far zq3 _
 replace o0:OwnE intE X4 (w.heap.size+2) b0 d0 s.sl.refs:=by rw[←hX4];exact(o0.ext hbb3).far (by show w.heap.size<w.heap.size+2;omega) _
 replace o1:OwnE boolE X4 (w.heap.size+2) b1 d1 s.sl.busy:=by rw[←hX4];exact(o1.ext hbb3).far (by show w.heap.size<w.heap.size+2;omega) _
 replace o2:OwnE wrE X4 X2.heap.size b2 d2 s.wr:=by rw[←hX4];exact(o2.ext hbb3).far (by exact zq2) _
 have u0w:OwnE intE X4 (w.heap.size+2) b0 d0 s.sl.refs:=o0;rw[hX4];clear hX4 hb3 hbb3 hc3 hm3 kT3 kU3 q3_4 t3_4 tf3_4 kS3 kR3;have zq4:=kS4.lt;obtain⟨-,-,-,-,-,q4_5,-⟩:=zc11 kS4
 go_upto_region 5 with (at_builtin;refine wpList_appR intE rfl (.tmp 25) (.tmp 27) _ rfl rfl _ X4.heap.size (by simp) (some ⟨X4.heap.size,0,none⟩) 0 0 [] rfl (.inl ⟨rfl,SR.nil⟩) a4 c4 s.desc.length s.desc rfl ((HS.out.r4.ext BX4).ext ((Below.refl _ _).alloc (Nat.le_refl _) _)) (by simp;omega) rfl rfl ?_;intro b4 d4 w4 hc4 hb4 hm4;have kT4:=(kS4.alloc_ _).below_ hb4 zq4;have kU4:=(kR4.alloc_ _).below_ hb4 zz4;have zt4:=kT4.lt;have t4_5:w4.cell? ⟨w.heap.size,5,none⟩=some (.slice a4 s.desc.length c4):=(by simpa using kT4.cell_ 5);have tf4_5:=kT4.frozen_ 5)
 have hbb4:Below X4.heap.size X4 w4:=Below.trans ((Below.refl _ _).alloc (Nat.le_refl _) _) hb4;have o4:OwnE intE w4 X4.heap.size b4 d4 s.desc:=⟨hc4,hm4 (.inl rfl)⟩;obtain⟨X5,hX5⟩:∃ V,w4.setCell ⟨w.heap.size,5,none⟩ (.slice b4 s.desc.length d4)=V:=⟨_,rfl⟩;have kS5:Blk X5 w.heap.size 35 (zkx s b0 d0 b1 d1 b2 d2 b3 d3 b4 d4 a5 c5 a6 c6 a7 c7).toArray:=by rw[←hX5];exact kT4.set_ 5 _
 have kR5:Blk X5 (w.heap.size+1) 35 zkz.toArray:=by rw[←hX5];exact kU4.far_ (by simp) _
 have BX5:Below w.heap.size w X5:=by rw[←hX5];exact(BX4.trans (hbb4.mono BX4.size)).setCell (p:=⟨w.heap.size,5,none⟩) (Nat.le_refl _) _
 have sz5:X4.heap.size≤X5.heap.size:=by rw[←hX5];simpa [World.setCell] using hbb4.size
 have zz5:w.heap.size+1<X5.heap.size:=kR5.lt;replace o4:OwnE intE X5 X4.heap.size b4 d4 s.desc:=by rw[←hX5];exact o4.far zq4 _
 replace o0:OwnE intE X5 (w.heap.size+2) b0 d0 s.sl.refs:=by rw[←hX5];exact(o0.ext hbb4).far (by show w.heap.size<w.heap.size+2;omega) _
 replace o1:OwnE boolE X5 (w.heap.size+2) b1 d1 s.sl.busy:=by rw[←hX5];exact(o1.ext hbb4).far (by show w.heap.size<w.heap.size+2;omega) _
 replace o2:OwnE wrE X5 X2.heap.size b2 d2 s.wr:=by rw[←hX5];exact(o2.ext hbb4).far (by exact zq2) _
 replace o3:OwnE rdE X5 X3.heap.size b3 d3 s.rd:=by rw[←hX5];exact(o3.ext hbb4).far (by exact zq3) _
 have p04:Part b0 d0 b4 d4:=(u0w).part o4 (Nat.le_refl _);have u4:OwnE intE X5 X4.heap.size b4 d4 s.desc:=o4;rw[hX5];clear hX5 hb4 hbb4 hc4 hm4 kT4 kU4 q4_5 t4_5 tf4_5 kS4 kR4;have zq5:=kS5.lt;obtain⟨-,-,-,-,-,-,q5_6,-⟩:=zc11 kS5
 go_upto_region 6 with (at_builtin;refine wpList_appR ctE rfl (.tmp 30) (.tmp 33) _ rfl rfl _ X5.heap.size (by simp) (some ⟨X5.heap.size,0,none⟩) 0 0 [] rfl (.inl ⟨rfl,SR.nil⟩) a5 c5 s.dk.cells.length s.dk.cells rfl ((HS.out.r5.ext BX5).ext ((Below.refl _ _).alloc (Nat.le_refl _) _)) (by simp;omega) rfl rfl ?_;intro b5 d5 w5 hc5 hb5 hm5;have kT5:=(kS5.alloc_ _).below_ hb5 zq5;have kU5:=(kR5.alloc_ _).below_ hb5 zz5;have zt5:=kT5.lt;have t5_6:w5.cell? ⟨w.heap.size,6,none⟩=some (.slice a5 s.dk.cells.length c5):=(by simpa using kT5.cell_ 6);have tf5_6:=kT5.frozen_ 6)
 have hbb5:Below X5.heap.size X5 w5:=Below.trans ((Below.refl _ _).alloc (Nat.le_refl _) _) hb5;have o5:OwnE ctE w5 X5.heap.size b5 d5 s.dk.cells:=⟨hc5,hm5 (.inl rfl)⟩;obtain⟨X6,hX6⟩:∃ V,w5.setCell ⟨w.heap.size,6,none⟩ (.slice b5 s.dk.cells.length d5)=V:=⟨_,rfl⟩;have kS6:Blk X6 w.heap.size 35 (zkx s b0 d0 b1 d1 b2 d2 b3 d3 b4 d4 b5 d5 a6 c6 a7 c7).toArray:=by rw[←hX6];exact kT5.set_ 6 _
 have kR6:Blk X6 (w.heap.size+1) 35 zkz.toArray:=by rw[←hX6];exact kU5.far_ (by simp) _
 have BX6:Below w.heap.size w X6:=by rw[←hX6];exact(BX5.trans (hbb5.mono BX5.size)).setCell (p:=⟨w.heap.size,6,none⟩) (Nat.le_refl _) _
 have sz6:X5.heap.size≤X6.heap.size:=by rw[←hX6];simpa [World.setCell] using hbb5.size
 have zz6:w.heap.size+1<X6.heap.size:=kR6.lt;replace o5:OwnE ctE X6 X5.heap.size b5 d5 s.dk.cells:=by rw[←hX6];exact o5.far zq5 _
 replace o0:OwnE intE X6 (w.heap.size+2) b0 d0 s.sl.refs:=by rw[←hX6];exact(o0.ext hbb5).far (by show w.heap.size<w.heap.size+2;omega) _
 replace o1:OwnE boolE X6 (w.heap.size+2) b1 d1 s.sl.busy:=by rw[←hX6];exact(o1.ext hbb5).far (by show w.heap.size<w.heap.size+2;omega) _
 replace o2:OwnE wrE X6 X2.heap.size b2 d2 s.wr:=by rw[←hX6];exact(o2.ext hbb5).far (by exact zq2) _
 replace o3:OwnE rdE X6 X3.heap.size b3 d3 s.rd:=by rw[←hX6];exact(o3.ext hbb5).far (by exact zq3) _
 replace o4:OwnE intE X6 X4.heap.size b4 d4 s.desc:=by rw[←hX6];exact(o4.ext hbb5).far (by exact zq4) _
 rw[hX6];clear hX6 hb5 hbb5 hc5 hm5 kT5 kU5 q5_6 t5_6 tf5_6 kS5 kR5;have zq6:=kS6.lt;obtain⟨-,-,-,-,-,-,-,q6_7,-⟩:=zc11 kS6
 go_upto_region 7 with (at_builtin;refine wpList_appR jbE rfl (.tmp 37) (.tmp 40) _ rfl rfl _ X6.heap.size (by simp) (some ⟨X6.heap.size,0,none⟩) 0 0 [] rfl (.inl ⟨rfl,SR.nil⟩) a6 c6 s.dk.jobs.length s.dk.jobs rfl ((HS.out.r6.ext BX6).ext ((Below.refl _ _).alloc (Nat.le_refl _) _)) (by simp;omega) rfl rfl ?_;intro b6 d6 w6 hc6 hb6 hm6;have kT6:=(kS6.alloc_ _).below_ hb6 zq6;have kU6:=(kR6.alloc_ _).below_ hb6 zz6;have zt6:=kT6.lt;have t6_7:w6.cell? ⟨w.heap.size,7,none⟩=some (.slice a6 s.dk.jobs.length c6):=(by simpa using kT6.cell_ 7);have tf6_7:=kT6.frozen_ 7)
 have hbb6:Below X6.heap.size X6 w6:=Below.trans ((Below.refl _ _).alloc (Nat.le_refl _) _) hb6;have o6:OwnE jbE w6 X6.heap.size b6 d6 s.dk.jobs:=⟨hc6,hm6 (.inl rfl)⟩;obtain⟨X7,hX7⟩:∃ V,w6.setCell ⟨w.heap.size,7,none⟩ (.slice b6 s.dk.jobs.length d6)=V:=⟨_,rfl⟩;have kS7:Blk X7 w.heap.size 35 (zkx s b0 d0 b1 d1 b2 d2 b3 d3 b4 d4 b5 d5 b6 d6 a7 c7).toArray:=by rw[←hX7];exact kT6.set_ 7 _
 have kR7:Blk X7 (w.heap.size+1) 35 zkz.toArray:=by rw[←hX7];exact kU6.far_ (by simp) _
 have BX7:Below w.heap.size w X7:=by rw[←hX7];exact(BX6.trans (hbb6.mono BX6.size)).setCell (p:=⟨w.heap.size,7,none⟩) (Nat.le_refl _) _
 have sz7:X6.heap.size≤X7.heap.size:=by rw[←hX7];simpa [World.setCell] using hbb6.size
 have zz7:w.heap.size+1<X7.heap.size:=kR7.lt;replace o6:OwnE jbE X7 X6.heap.size b6 d6 s.dk.jobs:=by rw[←hX7];exact o6.far zq6 _
 replace o0:OwnE intE X7 (w.heap.size+2) b0 d0 s.sl.refs:=by rw[←hX7];exact(o0.ext hbb6).far (by show w.heap.size<w.heap.size+2;omega) _
 replace o1:OwnE boolE X7 (w.heap.size+2) b1 d1 s.sl.busy:=by rw[←hX7];exact(o1.ext hbb6).far (by show w.heap.size<w.heap.size+2;omega) _
 replace o2:OwnE wrE X7 X2.heap.size b2 d2 s.wr:=by rw[←hX7];exact(o2.ext hbb6).far (by exact zq2) _
 replace o3:OwnE rdE X7 X3.heap.size b3 d3 s.rd:=by rw[←hX7];exact(o3.ext hbb6).far (by exact zq3) _
 replace o4:OwnE intE X7 X4.heap.size b4 d4 s.desc:=by rw[←hX7];exact(o4.ext hbb6).far (by exact zq4) _
 replace o5:OwnE ctE X7 X5.heap.size b5 d5 s.dk.cells:=by rw[←hX7];exact(o5.ext hbb6).far (by exact zq5) _
 rw[hX7];clear hX7 hb6 hbb6 hc6 hm6 kT6 kU6 q6_7 t6_7 tf6_7 kS6 kR6;have zq7:=kS7.lt;obtain⟨-,-,-,-,-,-,-,-,-,-,q7_10⟩:=zc11 kS7
 go_upto_region 8 with (at_builtin;refine wpList_appR intE rfl (.tmp 44) (.tmp 47) _ rfl rfl _ X7.heap.size (by simp) (some ⟨X7.heap.size,0,none⟩) 0 0 [] rfl (.inl ⟨rfl,SR.nil⟩) a7 c7 s.po.free.length s.po.free rfl ((HS.out.r7.ext BX7).ext ((Below.refl _ _).alloc (Nat.le_refl _) _)) (by simp;omega) rfl rfl ?_;intro b7 d7 w7 hc7 hb7 hm7;have kT7:=(kS7.alloc_ _).below_ hb7 zq7;have kU7:=(kR7.alloc_ _).below_ hb7 zz7;have zt7:=kT7.lt;have t7_10:w7.cell? ⟨w.heap.size,10,none⟩=some (.slice a7 s.po.free.length c7):=(by simpa using kT7.cell_ 10);have tf7_10:=kT7.frozen_ 10)
 have hbb7:Below X7.heap.size X7 w7:=Below.trans ((Below.refl _ _).alloc (Nat.le_refl _) _) hb7;have o7:OwnE intE w7 X7.heap.size b7 d7 s.po.free:=⟨hc7,hm7 (.inl rfl)⟩;obtain⟨X8,hX8⟩:∃ V,w7.setCell ⟨w.heap.size,10,none⟩ (.slice b7 s.po.free.length d7)=V:=⟨_,rfl⟩;have kS8:Blk X8 w.heap.size 35 (zkx s b0 d0 b1 d1 b2 d2 b3 d3 b4 d4 b5 d5 b6 d6 b7 d7).toArray:=by rw[←hX8];exact kT7.set_ 10 _
 have kR8:Blk X8 (w.heap.size+1) 35 zkz.toArray:=by rw[←hX8];exact kU7.far_ (by simp) _
 have BX8:Below w.heap.size w X8:=by rw[←hX8];exact(BX7.trans (hbb7.mono BX7.size)).setCell (p:=⟨w.heap.size,10,none⟩) (Nat.le_refl _) _
 have sz8:X7.heap.size≤X8.heap.size:=by rw[←hX8];simpa [World.setCell] using hbb7.size
 have zz8:w.heap.size+1<X8.heap.size:=kR8.lt;replace o7:OwnE intE X8 X7.heap.size b7 d7 s.po.free:=by rw[←hX8];exact o7.far zq7 _
 replace o0:OwnE intE X8 (w.heap.size+2) b0 d0 s.sl.refs:=by rw[←hX8];exact(o0.ext hbb7).far (by show w.heap.size<w.heap.size+2;omega) _
 replace o1:OwnE boolE X8 (w.heap.size+2) b1 d1 s.sl.busy:=by rw[←hX8];exact(o1.ext hbb7).far (by show w.heap.size<w.heap.size+2;omega) _
 replace o2:OwnE wrE X8 X2.heap.size b2 d2 s.wr:=by rw[←hX8];exact(o2.ext hbb7).far (by exact zq2) _
 replace o3:OwnE rdE X8 X3.heap.size b3 d3 s.rd:=by rw[←hX8];exact(o3.ext hbb7).far (by exact zq3) _
 replace o4:OwnE intE X8 X4.heap.size b4 d4 s.desc:=by rw[←hX8];exact(o4.ext hbb7).far (by exact zq4) _
 replace o5:OwnE ctE X8 X5.heap.size b5 d5 s.dk.cells:=by rw[←hX8];exact(o5.ext hbb7).far (by exact zq5) _
 replace o6:OwnE jbE X8 X6.heap.size b6 d6 s.dk.jobs:=by rw[←hX8];exact(o6.ext hbb7).far (by exact zq6) _
 have p47:Part b4 d4 b7 d7:=u4.part o7 (by omega);rw[hX8];clear hX8 hb7 hbb7 hc7 hm7 kT7 kU7 q7_10 t7_10 tf7_10 kS7 kR7;have zq8:=kS8.lt;obtain⟨y0,y1,y2,y3,y4,y5,y6,y7,y8,y9,y10⟩:=zc11 kS8;obtain⟨t0,t1,t2,t3,t4,t5,t6,t7,t8,t9,t10⟩:=zc11 kR8;obtain⟨tf0,tf1,tf2,tf3,tf4,tf5,tf6,tf7,tf8,tf9,tf10,-⟩:=zf kR8;go_wp2_with fail;obtain⟨W,hW⟩:∃ W,setN X8 (w.heap.size+1) 0 (zkx s b0 d0 b1 d1 b2 d2 b3 d3 b4 d4 b5 d5 b6 d6 b7 d7)=W:=⟨_,rfl⟩;have hWn:=zs11 hW;have kW:=zsw hW kR8;have bW:=zbw hW BX8 (by omega);have v0:OwnE intE W (w.heap.size+2) b0 d0 s.sl.refs:=by rw[←hW];exact(o0.base_ (by omega)).farN (by exact Nat.lt_succ_self _) _
 have v1:OwnE boolE W (w.heap.size+2) b1 d1 s.sl.busy:=by rw[←hW];exact(o1.base_ (by omega)).farN (by exact Nat.lt_succ_self _) _
 have v2:OwnE wrE W (w.heap.size+2) b2 d2 s.wr:=by rw[←hW];exact(o2.base_ (by omega)).farN (by exact Nat.lt_succ_self _) _
 have v3:OwnE rdE W (w.heap.size+2) b3 d3 s.rd:=by rw[←hW];exact(o3.base_ (by omega)).farN (by exact Nat.lt_succ_self _) _
 have v4:OwnE intE W (w.heap.size+2) b4 d4 s.desc:=by rw[←hW];exact(o4.base_ (by omega)).farN (by exact Nat.lt_succ_self _) _
 have v5:OwnE ctE W (w.heap.size+2) b5 d5 s.dk.cells:=by rw[←hW];exact(o5.base_ (by omega)).farN (by exact Nat.lt_succ_self _) _
 have v6:OwnE jbE W (w.heap.size+2) b6 d6 s.dk.jobs:=by rw[←hW];exact(o6.base_ (by omega)).farN (by exact Nat.lt_succ_self _) _
 have v7:OwnE intE W (w.heap.size+2) b7 d7 s.po.free:=by rw[←hW];exact(o7.base_ (by omega)).farN (by exact Nat.lt_succ_self _) _
 rw[hWn];clear hWn hW t0 tf0 y0 t1 tf1 y1 t2 tf2 y2 t3 tf3 y3 t4 tf4 y4 t5 tf5 y5 t6 tf6 y6 t7 tf7 y7 t8 tf8 y8 t9 tf9 y9 t10 tf10 y10;refine bodyPost_ret (by simp[results,Tryz.results54,go_sem,zc11 kW] <;> rfl) rfl ?_;exact⟨⟨b0,d0,b1,d1,b2,d2,b3,d3,b4,d4,b5,d5,b6,d6,b7,d7⟩,rfl,⟨v0.base_ (by omega),v1.base_ (by omega),(v2.base_ (by omega)).mn,v3.base_ (by omega),v4.base_ (by omega),v5.base_ (by omega),v6.base_ (by omega),v7.base_ (by omega),p04,p47.symm⟩,bW⟩
end Go.Proofs.YthijbipidbjpfaaGreatDoor
