import Derived.Test.YthijbipidbjpfaaGreatDoorZR07
import Derived.Test.YthijbipidbjpfaaGreatDoorZR16
import Derived.Test.YthijbipidbjpfaaGreatDoorZR00
import Derived.Test.YthijbipidbjpfaaGreatDoorZR04
import Derived.Test.YthijbipidbjpfaaGreatDoorZR14
import Derived.Test.YthijbipidbjpfaaGreatDoorZR06
import Derived.Test.YthijbipidbjpfaaGreatDoorZR15
import Derived.BigQuiet
import Derived.Test.YthijbipidbjpfaaGreatDoorZR03
set_option linter.unusedSimpArgs false
set_option linter.unusedVariables false
set_option maxRecDepth 100000
set_option maxHeartbeats 8000000
namespace Go.Proofs.YthijbipidbjpfaaGreatDoor
open Go.RowKit Go.Maps
def jobI (js:List Jb) (n:Int):Int:=match js.findIdx? (fun j => decide (j.slot = n)) with
 | none => -1
 | some i => i
def tmsL (l:List Wr) (p:Int):Nat:=l.countP fun v => decide (v.2.2 = p)
def wtdL (l:List Wr) (n:Int):Bool:=l.any fun v => decide (v.1 = n) && decide (v.2.2 ≠ 0)
def mtG:List Jb→List Wr→List Wr→Bool
 | [],ws,rs => ws.isEmpty && rs.isEmpty
 | ⟨true,s,f,_⟩ :: js,v :: ws,rs => decide (v.1 = s∧v.2.1 = f) && mtG js ws rs
 | ⟨true,_,_,_⟩ :: _,[],_ => false
 | ⟨false,s,f,_⟩ :: js,ws,v :: rs => decide (v.1 = s∧v.2.1 = f) && mtG js ws rs
 | ⟨false,_,_,_⟩ :: _,_,[] => false
theorem pair_iff {v:Wr} {s f:Int}:decide (v.1 = s∧v.2.1 = f) = decide ((s,f) = (v.1,v.2.1)):=by
 refine decide_eq_decide.2 ?_;rw [Prod.mk.injEq];exact ⟨fun h => ⟨h.1.symm,h.2.symm⟩,fun h => ⟨h.1.symm,h.2.symm⟩⟩
theorem mtG_iff:∀ (js:List Jb) (ws rs:List Wr),mtG js ws rs = true ↔ jvs js true = vvs ws∧jvs js false = vvs rs
 | [],ws,rs => by
  unfold mtG jvs vvs
  rw [Bool.and_eq_true,List.isEmpty_iff,List.isEmpty_iff]
  constructor
  ·rintro ⟨rfl,rfl⟩;exact ⟨rfl,rfl⟩
  ·rintro ⟨h1,h2⟩
   exact ⟨List.map_eq_nil_iff.1 h1.symm,List.map_eq_nil_iff.1 h2.symm⟩
 | ⟨true,s,f,d⟩ :: js,v :: ws,rs => by
  have ih:=mtG_iff js ws rs
  have e1:jvs (⟨true,s,f,d⟩ :: js) true = (s,f) :: jvs js true:=rfl
  have e2:jvs (⟨true,s,f,d⟩ :: js) false = jvs js false:=rfl
  have e3:vvs (v :: ws) = (v.1,v.2.1) :: vvs ws:=rfl
  rw [mtG,pair_iff,Bool.and_eq_true,ih,decide_eq_true_eq,e1,e2,e3,List.cons.injEq,and_assoc]
 | ⟨true,s,f,d⟩ :: js,[],rs => by
  have e1:jvs (⟨true,s,f,d⟩ :: js) true = (s,f) :: jvs js true:=rfl
  rw [mtG,e1]
  exact ⟨fun h => (by cases h),fun h => (by cases h.1)⟩
 | ⟨false,s,f,d⟩ :: js,ws,v :: rs => by
  have ih:=mtG_iff js ws rs
  have e1:jvs (⟨false,s,f,d⟩ :: js) false = (s,f) :: jvs js false:=rfl
  have e2:jvs (⟨false,s,f,d⟩ :: js) true = jvs js true:=rfl
  have e3:vvs (v :: rs) = (v.1,v.2.1) :: vvs rs:=rfl
  rw [mtG,pair_iff,Bool.and_eq_true,ih,decide_eq_true_eq,e1,e2,e3,List.cons.injEq]
  exact ⟨fun h => ⟨h.2.1,h.1,h.2.2⟩,fun h => ⟨h.2.1,h.1,h.2.2⟩⟩
 | ⟨false,s,f,d⟩ :: js,ws,[] => by
  have e1:jvs (⟨false,s,f,d⟩ :: js) false = (s,f) :: jvs js false:=rfl
  rw [mtG,e1]
  exact ⟨fun h => (by cases h),fun h => (by cases h.2)⟩
theorem tmsL_zero {l:List Wr} {p:Int}:tmsL l p = 0 ↔ ∀ v ∈ l,v.2.2 ≠ p:=by
 unfold tmsL;rw [List.countP_eq_zero];simp
theorem nodup_tms:∀ (l:List Wr),((l.filter fun v => decide (v.2.2 ≠ 0)).map (·.2.2)).Nodup ↔ ∀ p,p ≠ 0→tmsL l p ≤ 1
 | [] => by simp [tmsL]
 | v :: l => by
  have ih:=nodup_tms l
  have hc:∀ p,tmsL (v :: l) p = tmsL l p + if v.2.2 = p then 1 else 0:=fun p => by
   unfold tmsL
   rw [List.countP_cons]
   simp
  by_cases h:v.2.2 = 0
  ·rw [List.filter_cons_of_neg (by simpa using h),ih]
   constructor
   ·intro k p hp
    rw [hc,if_neg (by rw [h];exact fun e => hp e.symm)]
    exact k p hp
   ·intro k p hp
    have:=k p hp
    rw [hc,if_neg (by rw [h];exact fun e => hp e.symm)] at this
    exact this
  ·rw [List.filter_cons_of_pos (by simpa using h),List.map_cons,List.nodup_cons,ih]
   have hm:v.2.2 ∉ (l.filter fun v => decide (v.2.2 ≠ 0)).map (·.2.2) ↔ tmsL l v.2.2 = 0:=by
    rw [tmsL_zero]
    constructor
    ·intro k x hx e
     exact k (List.mem_map.2 ⟨x,List.mem_filter.2 ⟨hx,by rw [decide_eq_true_eq,e];exact h⟩,e⟩)
    ·intro k hx
     obtain ⟨x,hx,e⟩:=List.mem_map.1 hx
     exact k x (List.mem_filter.1 hx).1 e
   rw [hm]
   constructor
   ·rintro ⟨k1,k2⟩ p hp
    rw [hc]
    by_cases e:v.2.2 = p
    ·rw [if_pos e,← e,k1];omega
    ·rw [if_neg e];exact k2 p hp
   ·intro k
    refine ⟨?_,fun p hp => ?_⟩
    ·have:=k v.2.2 h
     rw [hc,if_pos rfl] at this
     omega
    ·have:=k p hp
     rw [hc] at this
     omega
theorem bsW_job (js:List Jb) (i:Nat):bsW js i = decide (0 ≤ jobI js i):=by
 unfold bsW jobI
 cases h:js.findIdx? (fun j => decide (j.slot = (i:Int))) with
 | none =>
  rw [List.findIdx?_eq_none_iff] at h;rw [List.any_eq_false.2 fun x hx => by simpa using h x hx];rfl
 | some k =>
  obtain ⟨hk,h1,_⟩:=List.findIdx?_eq_some_iff_getElem.1 h;rw [List.any_eq_true.2 ⟨js[k],List.getElem_mem _,h1⟩];exact (decide_eq_true (by show (0:Int) ≤ k;omega)).symm
theorem map_range_iff {l:List Bool} {f:Nat→Bool}:l = (List.range l.length).map f ↔ ∀ i,i < l.length→l.getD i false = f i:=by
 constructor
 ·intro h i hi
  rw [List.getD_eq_getElem?_getD,List.getElem?_eq_getElem hi,Option.getD_some];have:l[i]? = ((List.range l.length).map f)[i]?:=by rw [← h]
  rw [List.getElem?_eq_getElem hi,List.getElem?_map,List.getElem?_range hi] at this;simpa using this
 ·intro h
  refine List.ext_getElem (by simp) fun i h1 h2 => ?_
  have:=h i h1;rw [List.getD_eq_getElem?_getD,List.getElem?_eq_getElem h1,Option.getD_some] at this;simpa using this
theorem agR_iff {s:Swp} (h1:OkT s.sl) (h2:Valid s.wr) (h3:OkD s.dk):agW s = true ↔
  (s.sl.refs.length = s.dk.cells.length∧s.dk.room = s.po.size∧(s.wr.length:Int) ≤ s.cap)∧mtG s.dk.jobs s.wr s.rd = true ∧
  (s.desc.length = s.dk.jobs.length∧(tknP s.po).length = s.desc.length∧∀ d ∈ tknP s.po,d ∈ s.desc)∧(∀ v ∈ s.rd,0 ≤ v.2.2∧v.2.2 ≤ 8) ∧
  (∀ p:Int,1 ≤ p→p ≤ 8→tmsL (s.wr ++ s.rd) p ≤ 1)∧∀ i:Nat,i < s.sl.refs.length→bsyT s.sl i = decide (0 ≤ jobI s.dk.jobs i)∧¬ (wtdL (s.wr ++ s.rd) i = true∧refT s.sl i = 0):=by
 have hw:∀ v ∈ s.wr,v.2.2 = 0 ∨ (1 ≤ v.2.2∧v.2.2 ≤ 8):=fun v hv => by
  have:=h2.2.1 v hv
  unfold okW at this
  simp at this
  exact this.2.2
 have hnd:((wtW s).map (·.1)).Nodup ↔ ∀ p,p ≠ 0→tmsL (s.wr ++ s.rd) p ≤ 1:=by
  rw [← nodup_tms]
  unfold wtW
  rw [List.map_map]
  rfl
 have hmem:∀ x,x ∈ wtW s ↔ ∃ v ∈ s.wr ++ s.rd,v.2.2 ≠ 0∧x = (v.2.2,v.1):=fun x => by
  unfold wtW
  constructor
  ·intro h
   obtain ⟨v,hv,e⟩:=List.mem_map.1 h
   exact ⟨v,(List.mem_filter.1 hv).1,by simpa using (List.mem_filter.1 hv).2,e.symm⟩
  ·rintro ⟨v,hv,h0,rfl⟩
   exact List.mem_map.2 ⟨v,List.mem_filter.2 ⟨hv,by simpa using h0⟩,rfl⟩
 have hwd:∀ n,wtdL (s.wr ++ s.rd) n = true ↔ ∃ v ∈ s.wr ++ s.rd,v.1 = n∧v.2.2 ≠ 0:=fun n => by
  unfold wtdL
  rw [List.any_eq_true]
  simp
 have hrf:∀ i,0 ≤ refT s.sl i:=fun i => by
  unfold refT
  rw [List.getD_eq_getElem?_getD]
  cases h:s.sl.refs[i]? with
  | none => exact Int.le_refl _
  | some r => exact (h1.range r (List.mem_of_getElem? h)).1
 have hbl:=h1.blen
 rw [agW_ok,mtG_iff]
 constructor
 ·rintro ⟨a1,a2,a3,a4,a5,a6,a7,⟨a8,a9⟩,a10⟩
  refine ⟨a1,⟨a2,a3⟩,⟨a5,a6,a7⟩,fun v hv => ?_,fun p p1 _ => hnd.1 a8 p (by omega),fun i hi => ⟨?_,?_⟩⟩
  ·by_cases e:v.2.2 = 0
   ·omega
   ·have:=a9 (v.2.2,v.1) ((hmem _).2 ⟨v,by simp [hv],e,rfl⟩)
    omega
  ·rw [← bsW_job]
   exact map_range_iff.1 a4 i (by omega)
  ·rintro ⟨b1,b2⟩
   obtain ⟨v,hv,e,h0⟩:=(hwd _).1 b1
   have:=a10 (v.2.2,v.1) ((hmem _).2 ⟨v,hv,h0,rfl⟩)
   dsimp only at this
   rw [e,Int.toNat_natCast] at this
   omega
 ·rintro ⟨a1,⟨a2,a3⟩,⟨a5,a6,a7⟩,b1,b2,b3⟩
  have hall:∀ v ∈ s.wr ++ s.rd,v.2.2 = 0 ∨ (1 ≤ v.2.2∧v.2.2 ≤ 8):=fun v hv => by
   rcases List.mem_append.1 hv with hv | hv
   ·exact hw v hv
   ·have:=b1 v hv;omega
  have hsl:∀ v ∈ s.wr ++ s.rd,0 ≤ v.1∧v.1 < s.sl.refs.length:=fun v hv => by
   have key:∀ (b:Bool) (vs:List Wr),jvs s.dk.jobs b = vvs vs→v ∈ vs→0 ≤ v.1∧v.1 < s.sl.refs.length:=fun b vs hm hx => by
    have hv:(v.1,v.2.1) ∈ jvs s.dk.jobs b:=by rw [hm];exact List.mem_map.2 ⟨v,hx,rfl⟩
    obtain ⟨j,hj,e⟩:=List.mem_map.1 hv
    have:=h3.inr j (List.mem_filter.1 hj).1
    injection e with e _
    omega
   rcases List.mem_append.1 hv with hv | hv
   ·exact key _ _ a2 hv
   ·exact key _ _ a3 hv
  refine ⟨a1,a2,a3,map_range_iff.2 fun i hi => ?_,a5,a6,a7,⟨hnd.2 fun p hp => ?_,fun x hx => ?_⟩,fun x hx => ?_⟩
  ·rw [bsW_job]
   exact (b3 i (by omega)).1
  ·by_cases e:1 ≤ p∧p ≤ 8
   ·exact b2 p e.1 e.2
   ·rw [tmsL_zero.2 fun v hv k => by have:=hall v hv;omega]
    omega
  ·obtain ⟨v,hv,h0,rfl⟩:=(hmem _).1 hx
   have:=hall v hv
   dsimp only
   omega
  ·obtain ⟨v,hv,h0,rfl⟩:=(hmem _).1 hx
   have hr:=hsl v hv
   have:=(b3 v.1.toNat (by omega)).2
   have h:=hrf v.1.toNat
   have hn:refT s.sl v.1.toNat ≠ 0:=fun e => this ⟨(hwd _).2 ⟨v,hv,by omega,h0⟩,e⟩
   dsimp only
   omega
def LitE (v:Value) (_ _:Nat) (_:World):Prop:=∃ g,v = .slice (some ⟨g,0,none⟩) 0 0
theorem LitE.lasts:(Fk.has LitE).lasts:=fun _ _ _ _ _ h _ => h
theorem step_appF {α:Type} (E:Elt Tryz.prog α) {ops:Array Oper} {o:Oper} {a:Act} {K:Act→World→Prop} {Q:Exit→Act→World→Prop} {E':Prop} (hgd:o.guard = none) (s x:Operand) (t:TypeId) (ht:t = E.s)
  (ho:o.op = .call { callee:=.builtin .append,args:=#[s,x],argTypes:=#[t,t] }) (w:World) (g:Nat) (B:Option Addr) (d n:Nat) (k:List α) (hn:n = k.length) (hk:SR E w B k) (hl:k.length ≤ 1000)
  (hs:a.eval s = .slice (some ⟨g,0,none⟩) 0 0) (hx:a.eval x = .slice B n d)
  (hK:∀ A' c' w',OwnE E w' w.heap.size A' c' k→Below w.heap.size w w'→K (a.put o.dst (.slice A' n c')) w') :
  if Region.wanted o (yielded ops a.tmps) = true then Oper.wp Tryz.prog o a w K Q else E':=by
 subst hn ht
 obtain ⟨A',c',w',hrun,h2,h3,h4⟩:=run_appR E o.type w w.heap.size (Nat.le_refl _) (some ⟨g,0,none⟩) 0 [] (.inl ⟨rfl,SR.nil⟩) B d k hk (by simp;omega)
 exact step_app hgd s x _ ho w w' _ _ _ hs hx hrun (hK A' c' w' ⟨h2,h4 (.inl rfl)⟩ h3)
theorem kOwnInts_any (A:Option Addr) (c:Nat) (l:List Int) (w:World) (ha:SR intE w A l) (la:l.length ≤ 1000):Calls Tryz.prog 45 #[.slice A l.length c] w (ClnPost intE l w):=by
 have HA:=Lib.hid ha;clear ha
 go_enter Tryz.func45,Tryz.ntmps45
 go_wp2_with (at_builtin;refine wpList_appR intE rfl (.tmp 3) (.tmp 4) _ rfl rfl _ w.heap.size (by simp) (some ⟨w.heap.size,0,none⟩) 0 0 [] rfl (.inl ⟨rfl,SR.nil⟩) A c l.length l rfl (HA.out.ext zbl) (by simp;omega) rfl rfl ?_;intro A' c' w1 hc1 hb1 hm1)
 go_ret;exact ⟨A',c',rfl,⟨hc1,hm1 (by simp)⟩,zbl⟩
theorem kOwnSlots_any (A B:Option Addr) (c d:Nat) (s:Sts) (w:World) (ha:SR intE w A s.refs) (hb:SR boolE w B s.busy) (la:s.refs.length ≤ 1000) (lb:s.busy.length ≤ 1000) :
  Calls Tryz.prog 42 #[stV A c B d s] w (BkPost s w):=by
 have HA:=Lib.hid ha
 have HB:=Lib.hid hb
 unfold stV
 clear ha hb
 obtain ⟨X,hX⟩:∃ X,(w.alloc (.cells #[.slice A s.refs.length c,.slice B s.busy.length d] 25)).alloc (.cells #[.slice none 0 0,.slice none 0 0] 25) = X:=⟨_,rfl⟩
 have kD:Blk X w.heap.size 25 #[.slice A s.refs.length c,.slice B s.busy.length d]:=by rw [← hX];exact zbk
 have kT:=za2 hX
 have BX:Below w.heap.size w X:=by rw [← hX];exact zbl
 have hXs:X.heap.size = w.heap.size + 2:=by rw [← hX];simp
 replace HA:=Lib.hid (HA.out.ext BX)
 replace HB:=Lib.hid (HB.out.ext BX)
 go_enter Tryz.func42,Tryz.ntmps42
 go_wp2_with fail
 (try rw [hX])
 clear hX
 refine zrg [2,0,1,2,2,0,1,2,0,3] [[],[],[],[],[],[],[],[],[3,7],[]] [.has (LitE),.is ?_,.kn ?_,.has (ClnF intE s.refs s.refs.length),.has (LitE),.is ?_,.kn ?_,.has (ClnF boolE s.busy s.busy.length),.fn [3,7] (fun l => .agg #[l.getD 0 undef,l.getD 1 undef]),.late] [9] (lts_has (LitE.lasts) (lts_is (lts_kn (lts_has (ClnF.lasts intE s.refs _) (lts_has (LitE.lasts) (lts_is (lts_kn (lts_has (ClnF.lasts boolE s.busy _) (lts_fn (lts_late lts_nil)))))))))) (fun W0 hb0 hz0 => ?_)
 rotate_left 4
 have kW:=kD.below_ hb0 kD.lt
 have zW:=kW.lt
 have kT0:=kT.below_ hb0 kT.lt
 have zX0:w.heap.size ≤ W0.heap.size:=Nat.le_trans BX.size hb0.size
 replace HA:=Lib.hid (HA.out.ext hb0)
 replace HB:=Lib.hid (HB.out.ext hb0)
 obtain ⟨p0,p1⟩:=zc2 kW
 refine zqh (fun w hbw hd K Q' hK => ?_) (fun vks0 => ?_)
 ·clear hd
  go_simp
  exact hK.out (.slice (some ⟨w.heap.size,0,none⟩) 0 0) _ _ zpt zbm ⟨_,rfl⟩
 refine zqp ?_
 refine zqT (fun w hbw hd => ?_) ?_
 ·have q1:=cell_keep hbw p0 zW
  exact zgs
 refine zqh (fun w hbw hd K Q' hK => ?_) (fun vks3 => ?_)
 ·obtain ⟨_,_,g,rfl⟩:∃ lo hi,LitE vks0 lo hi w:=hd 0 _ _ (by kernel_rfl) rfl rfl
  clear hd
  refine step_appF intE rfl (.tmp 3) (.tmp 5) _ rfl rfl w g A c s.refs.length s.refs rfl (HA.out.ext hbw) la rfl rfl ?_
  intro A' c' y ho hy
  exact hK.out (.slice A' s.refs.length c') _ _ zpt zbm ⟨A',c',rfl,ho⟩
 refine zqh (fun w hbw hd K Q' hK => ?_) (fun vks4 => ?_)
 ·clear hd
  go_simp
  exact hK.out (.slice (some ⟨w.heap.size,0,none⟩) 0 0) _ _ zpt zbm ⟨_,rfl⟩
 refine zqp ?_
 refine zqT (fun w hbw hd => ?_) ?_
 ·have q1:=cell_keep hbw p1 zW
  exact zgs
 refine zqh (fun w hbw hd K Q' hK => ?_) (fun vks7 => ?_)
 ·obtain ⟨_,_,g,rfl⟩:∃ lo hi,LitE vks4 lo hi w:=hd 4 _ _ (by kernel_rfl) rfl rfl
  clear hd
  refine step_appF boolE rfl (.tmp 7) (.tmp 9) _ rfl rfl w g B d s.busy.length s.busy rfl (HB.out.ext hbw) lb rfl rfl ?_
  intro A' c' y ho hy
  exact hK.out (.slice A' s.busy.length c') _ _ zpt zbm ⟨A',c',rfl,ho⟩
 refine zqF (.agg #[vks3,vks7]) (fun w0 hd w => ?_) ?_
 ·obtain ⟨_,_,A',d',rfl,_⟩:∃ lo hi,ClnF intE s.refs s.refs.length vks3 lo hi w0:=hd 3 _ _ (by kernel_rfl) rfl rfl
  obtain ⟨_,_,B',d',rfl,_⟩:∃ lo hi,ClnF boolE s.busy s.busy.length vks7 lo hi w0:=hd 7 _ _ (by kernel_rfl) rfl rfl
  exact zsr
 refine zql ?_
 refine chn_end (fun wz lo hi hbz hd hR => ?_)
 obtain ⟨A1,d1,rfl,o1⟩:ClnF intE s.refs s.refs.length vks3 (lo 3) (hi 3) wz:=hd 3 _ _ rfl rfl
 obtain ⟨A2,d2,rfl,o2⟩:ClnF boolE s.busy s.busy.length vks7 (lo 7) (hi 7) wz:=hd 7 _ _ rfl rfl
 have r2:=(hR.2 3 _ rfl).1
 have r5:=(hR.2 7 _ rfl).1
 have zX1:w.heap.size + 2 ≤ W0.heap.size:=Nat.le_trans (by rw [hXs];exact Nat.le_refl _) hb0.size
 have BZ:Below w.heap.size w wz:=BX.trans ((hb0.trans (hbz.mono hb0.size)).mono BX.size)
 have kTz:=kT0.below_ hbz kT0.lt
 have zTz:=kTz.lt
 clear hd hR p0 p1
 obtain ⟨y0,y1⟩:=zc2 kTz
 obtain ⟨yf0,yf1,-⟩:=zf kTz
 refine late_one (by simp only [zy5,zy6,zy7];rfl) (fun K Q' hK => ?_)
 go_simp
 refine hK.out _ ?_
 clear hK K Q'
 go_wp2_with fail
 obtain ⟨W,hW⟩:∃ W,setN wz (w.heap.size + 1) 0 [.slice A1 s.refs.length d1,.slice A2 s.busy.length d2] = W:=⟨_,rfl⟩
 have hWn:World.setCell (World.setCell wz ⟨w.heap.size + 1,0,none⟩ (.slice A1 s.refs.length d1)) ⟨w.heap.size + 1,1,none⟩ (.slice A2 s.busy.length d2) = W:=hW
 have kW:=zsw hW kTz
 have bW:=zbw hW BZ (by omega)
 have o1W:OwnE intE W (w.heap.size + 2) A1 d1 s.refs:=by rw [← hW];exact (o1.base_ (by omega)).farN (by exact Nat.lt_succ_self _) _
 have o2W:OwnE boolE W (w.heap.size + 2) A2 d2 s.busy:=by rw [← hW];exact (o2.base_ (by omega)).farN (by exact Nat.lt_succ_self _) _
 rw [hWn]
 clear hWn hW y0 yf0 y1 yf1
 refine bodyPost_ret (by simp [results,Tryz.results42,go_sem,zc2 kW] <;> rfl) rfl ?_
 exact ⟨A1,d1,A2,d2,rfl,o1W.base_ (by omega),o2W.base_ (by omega),bW⟩
theorem kOwnDisk_any (A B:Option Addr) (c d:Nat) (k0:Dsk) (w:World) (ha:SR ctE w A k0.cells) (hb:SR jbE w B k0.jobs) (la:k0.cells.length ≤ 1000) (lb:k0.jobs.length ≤ 1000) :
  Calls Tryz.prog 43 #[dkV A c B d k0] w (DcPost k0 w):=by
 have HA:=Lib.hid ha
 have HB:=Lib.hid hb
 unfold dkV
 clear ha hb
 obtain ⟨X,hX⟩:∃ X,(w.alloc (.cells #[.slice A k0.cells.length c,.slice B k0.jobs.length d,.int .i64 k0.room] 31)).alloc (.cells #[.slice none 0 0,.slice none 0 0,.int .i64 0] 31) = X:=⟨_,rfl⟩
 have kD:Blk X w.heap.size 31 #[.slice A k0.cells.length c,.slice B k0.jobs.length d,.int .i64 k0.room]:=by rw [← hX];exact zbk
 have kT:=za2 hX
 have BX:Below w.heap.size w X:=by rw [← hX];exact zbl
 have hXs:X.heap.size = w.heap.size + 2:=by rw [← hX];simp
 replace HA:=Lib.hid (HA.out.ext BX)
 replace HB:=Lib.hid (HB.out.ext BX)
 go_enter Tryz.func43,Tryz.ntmps43
 go_wp2_with fail
 (try rw [hX])
 clear hX
 refine zrg [2,0,1,2,2,0,1,2,0,1,0,3] [[],[],[],[],[],[],[],[],[],[],[3,7],[]] [.has (LitE),.is ?_,.kn ?_,.has (ClnF ctE k0.cells k0.cells.length),.has (LitE),.is ?_,.kn ?_,.has (ClnF jbE k0.jobs k0.jobs.length),.is ?_,.kn ?_,.fn [3,7] (fun l => .agg #[l.getD 0 undef,l.getD 1 undef,.int .i64 k0.room]),.late] [11] (lts_has (LitE.lasts) (lts_is (lts_kn (lts_has (ClnF.lasts ctE k0.cells _) (lts_has (LitE.lasts) (lts_is (lts_kn (lts_has (ClnF.lasts jbE k0.jobs _) (lts_is (lts_kn (lts_fn (lts_late lts_nil)))))))))))) (fun W0 hb0 hz0 => ?_)
 rotate_left 6
 have kW:=kD.below_ hb0 kD.lt
 have zW:=kW.lt
 have kT0:=kT.below_ hb0 kT.lt
 have zX0:w.heap.size ≤ W0.heap.size:=Nat.le_trans BX.size hb0.size
 replace HA:=Lib.hid (HA.out.ext hb0)
 replace HB:=Lib.hid (HB.out.ext hb0)
 obtain ⟨p0,p1,p2⟩:=zc3 kW
 refine zqh (fun w hbw hd K Q' hK => ?_) (fun vkd0 => ?_)
 ·clear hd
  go_simp
  exact hK.out (.slice (some ⟨w.heap.size,0,none⟩) 0 0) _ _ zpt zbm ⟨_,rfl⟩
 refine zqp ?_
 refine zqT (fun w hbw hd => ?_) ?_
 ·have q1:=cell_keep hbw p0 zW
  exact zgs
 refine zqh (fun w hbw hd K Q' hK => ?_) (fun vkd3 => ?_)
 ·obtain ⟨_,_,g,rfl⟩:∃ lo hi,LitE vkd0 lo hi w:=hd 0 _ _ (by kernel_rfl) rfl rfl
  clear hd
  refine step_appF ctE rfl (.tmp 3) (.tmp 5) _ rfl rfl w g A c k0.cells.length k0.cells rfl (HA.out.ext hbw) la rfl rfl ?_
  intro A' c' y ho hy
  exact hK.out (.slice A' k0.cells.length c') _ _ zpt zbm ⟨A',c',rfl,ho⟩
 refine zqh (fun w hbw hd K Q' hK => ?_) (fun vkd4 => ?_)
 ·clear hd
  go_simp
  exact hK.out (.slice (some ⟨w.heap.size,0,none⟩) 0 0) _ _ zpt zbm ⟨_,rfl⟩
 refine zqp ?_
 refine zqT (fun w hbw hd => ?_) ?_
 ·have q1:=cell_keep hbw p1 zW
  exact zgs
 refine zqh (fun w hbw hd K Q' hK => ?_) (fun vkd7 => ?_)
 ·obtain ⟨_,_,g,rfl⟩:∃ lo hi,LitE vkd4 lo hi w:=hd 4 _ _ (by kernel_rfl) rfl rfl
  clear hd
  refine step_appF jbE rfl (.tmp 7) (.tmp 9) _ rfl rfl w g B d k0.jobs.length k0.jobs rfl (HB.out.ext hbw) lb rfl rfl ?_
  intro A' c' y ho hy
  exact hK.out (.slice A' k0.jobs.length c') _ _ zpt zbm ⟨A',c',rfl,ho⟩
 refine zqp ?_
 refine zqT (fun w hbw hd => ?_) ?_
 ·have q1:=cell_keep hbw p2 zW
  exact zgs
 refine zqF (.agg #[vkd3,vkd7,.int .i64 k0.room]) (fun w0 hd w => ?_) ?_
 ·obtain ⟨_,_,A',d',rfl,_⟩:∃ lo hi,ClnF ctE k0.cells k0.cells.length vkd3 lo hi w0:=hd 3 _ _ (by kernel_rfl) rfl rfl
  obtain ⟨_,_,B',d',rfl,_⟩:∃ lo hi,ClnF jbE k0.jobs k0.jobs.length vkd7 lo hi w0:=hd 7 _ _ (by kernel_rfl) rfl rfl
  exact zsr
 refine zql ?_
 refine chn_end (fun wz lo hi hbz hd hR => ?_)
 obtain ⟨A1,d1,rfl,o1⟩:ClnF ctE k0.cells k0.cells.length vkd3 (lo 3) (hi 3) wz:=hd 3 _ _ rfl rfl
 obtain ⟨A2,d2,rfl,o2⟩:ClnF jbE k0.jobs k0.jobs.length vkd7 (lo 7) (hi 7) wz:=hd 7 _ _ rfl rfl
 have r2:=(hR.2 3 _ rfl).1
 have r5:=(hR.2 7 _ rfl).1
 have zX1:w.heap.size + 2 ≤ W0.heap.size:=Nat.le_trans (by rw [hXs];exact Nat.le_refl _) hb0.size
 have BZ:Below w.heap.size w wz:=BX.trans ((hb0.trans (hbz.mono hb0.size)).mono BX.size)
 have kTz:=kT0.below_ hbz kT0.lt
 have zTz:=kTz.lt
 clear hd hR p0 p1 p2
 obtain ⟨y0,y1,y2⟩:=zc3 kTz
 obtain ⟨yf0,yf1,yf2,-⟩:=zf kTz
 refine late_one (by simp only [zy5,zy6,zy7];rfl) (fun K Q' hK => ?_)
 go_simp
 refine hK.out _ ?_
 clear hK K Q'
 go_wp2_with fail
 obtain ⟨W,hW⟩:∃ W,setN wz (w.heap.size + 1) 0 [.slice A1 k0.cells.length d1,.slice A2 k0.jobs.length d2,.int .i64 k0.room] = W:=⟨_,rfl⟩
 have hWn:World.setCell (World.setCell (World.setCell wz ⟨w.heap.size + 1,0,none⟩ (.slice A1 k0.cells.length d1)) ⟨w.heap.size + 1,1,none⟩ (.slice A2 k0.jobs.length d2)) ⟨w.heap.size + 1,2,none⟩ (.int .i64 k0.room) = W:=hW
 have kW:=zsw hW kTz
 have bW:=zbw hW BZ (by omega)
 have o1W:OwnE ctE W (w.heap.size + 2) A1 d1 k0.cells:=by rw [← hW];exact (o1.base_ (by omega)).farN (by exact Nat.lt_succ_self _) _
 have o2W:OwnE jbE W (w.heap.size + 2) A2 d2 k0.jobs:=by rw [← hW];exact (o2.base_ (by omega)).farN (by exact Nat.lt_succ_self _) _
 rw [hWn]
 clear hWn hW y0 yf0 y1 yf1 y2 yf2
 refine bodyPost_ret (by simp [results,Tryz.results43,go_sem,zc3 kW] <;> rfl) rfl ?_
 exact ⟨A1,d1,A2,d2,rfl,o1W.base_ (by omega),o2W.base_ (by omega),bW⟩
theorem rdOwn_any (A B:Option Addr) (c d:Nat) (k0:Dsk) (w:World) (ha:SR ctE w A k0.cells) (hb:SR jbE w B k0.jobs) (la:k0.cells.length ≤ 1000) (lb:k0.jobs.length ≤ 1000) :
  Calls Tryz.prog 142 #[dkV A c B d k0] w (DcPost k0 w):=by
 have HA:=Lib.hid ha
 have HB:=Lib.hid hb
 unfold dkV
 clear ha hb
 obtain ⟨X,hX⟩:∃ X,(w.alloc (.cells #[.slice A k0.cells.length c,.slice B k0.jobs.length d,.int .i64 k0.room] 31)).alloc (.cells #[.slice none 0 0,.slice none 0 0,.int .i64 0] 31) = X:=⟨_,rfl⟩
 have kD:Blk X w.heap.size 31 #[.slice A k0.cells.length c,.slice B k0.jobs.length d,.int .i64 k0.room]:=by rw [← hX];exact zbk
 have kT:=za2 hX
 have BX:Below w.heap.size w X:=by rw [← hX];exact zbl
 have hXs:X.heap.size = w.heap.size + 2:=by rw [← hX];simp
 replace HA:=Lib.hid (HA.out.ext BX)
 replace HB:=Lib.hid (HB.out.ext BX)
 go_enter Tryz.func142,Tryz.ntmps142
 go_wp2_with fail
 (try rw [hX])
 clear hX
 refine zrg [2,0,1,2,2,0,1,2,0,1,0,3] [[],[],[],[],[],[],[],[],[],[],[3,7],[]] [.has (LitE),.is ?_,.kn ?_,.has (ClnF ctE k0.cells k0.cells.length),.has (LitE),.is ?_,.kn ?_,.has (ClnF jbE k0.jobs k0.jobs.length),.is ?_,.kn ?_,.fn [3,7] (fun l => .agg #[l.getD 0 undef,l.getD 1 undef,.int .i64 k0.room]),.late] [11] (lts_has (LitE.lasts) (lts_is (lts_kn (lts_has (ClnF.lasts ctE k0.cells _) (lts_has (LitE.lasts) (lts_is (lts_kn (lts_has (ClnF.lasts jbE k0.jobs _) (lts_is (lts_kn (lts_fn (lts_late lts_nil)))))))))))) (fun W0 hb0 hz0 => ?_)
 rotate_left 6
 have kW:=kD.below_ hb0 kD.lt
 have zW:=kW.lt
 have kT0:=kT.below_ hb0 kT.lt
 have zX0:w.heap.size ≤ W0.heap.size:=Nat.le_trans BX.size hb0.size
 replace HA:=Lib.hid (HA.out.ext hb0)
 replace HB:=Lib.hid (HB.out.ext hb0)
 obtain ⟨p0,p1,p2⟩:=zc3 kW
 refine zqh (fun w hbw hd K Q' hK => ?_) (fun vrd0 => ?_)
 ·clear hd
  go_simp
  exact hK.out (.slice (some ⟨w.heap.size,0,none⟩) 0 0) _ _ zpt zbm ⟨_,rfl⟩
 refine zqp ?_
 refine zqT (fun w hbw hd => ?_) ?_
 ·have q1:=cell_keep hbw p0 zW
  exact zgs
 refine zqh (fun w hbw hd K Q' hK => ?_) (fun vrd3 => ?_)
 ·obtain ⟨_,_,g,rfl⟩:∃ lo hi,LitE vrd0 lo hi w:=hd 0 _ _ (by kernel_rfl) rfl rfl
  clear hd
  refine step_appF ctE rfl (.tmp 3) (.tmp 5) _ rfl rfl w g A c k0.cells.length k0.cells rfl (HA.out.ext hbw) la rfl rfl ?_
  intro A' c' y ho hy
  exact hK.out (.slice A' k0.cells.length c') _ _ zpt zbm ⟨A',c',rfl,ho⟩
 refine zqh (fun w hbw hd K Q' hK => ?_) (fun vrd4 => ?_)
 ·clear hd
  go_simp
  exact hK.out (.slice (some ⟨w.heap.size,0,none⟩) 0 0) _ _ zpt zbm ⟨_,rfl⟩
 refine zqp ?_
 refine zqT (fun w hbw hd => ?_) ?_
 ·have q1:=cell_keep hbw p1 zW
  exact zgs
 refine zqh (fun w hbw hd K Q' hK => ?_) (fun vrd7 => ?_)
 ·obtain ⟨_,_,g,rfl⟩:∃ lo hi,LitE vrd4 lo hi w:=hd 4 _ _ (by kernel_rfl) rfl rfl
  clear hd
  refine step_appF jbE rfl (.tmp 7) (.tmp 9) _ rfl rfl w g B d k0.jobs.length k0.jobs rfl (HB.out.ext hbw) lb rfl rfl ?_
  intro A' c' y ho hy
  exact hK.out (.slice A' k0.jobs.length c') _ _ zpt zbm ⟨A',c',rfl,ho⟩
 refine zqp ?_
 refine zqT (fun w hbw hd => ?_) ?_
 ·have q1:=cell_keep hbw p2 zW
  exact zgs
 refine zqF (.agg #[vrd3,vrd7,.int .i64 k0.room]) (fun w0 hd w => ?_) ?_
 ·obtain ⟨_,_,A',d',rfl,_⟩:∃ lo hi,ClnF ctE k0.cells k0.cells.length vrd3 lo hi w0:=hd 3 _ _ (by kernel_rfl) rfl rfl
  obtain ⟨_,_,B',d',rfl,_⟩:∃ lo hi,ClnF jbE k0.jobs k0.jobs.length vrd7 lo hi w0:=hd 7 _ _ (by kernel_rfl) rfl rfl
  exact zsr
 refine zql ?_
 refine chn_end (fun wz lo hi hbz hd hR => ?_)
 obtain ⟨A1,d1,rfl,o1⟩:ClnF ctE k0.cells k0.cells.length vrd3 (lo 3) (hi 3) wz:=hd 3 _ _ rfl rfl
 obtain ⟨A2,d2,rfl,o2⟩:ClnF jbE k0.jobs k0.jobs.length vrd7 (lo 7) (hi 7) wz:=hd 7 _ _ rfl rfl
 have r2:=(hR.2 3 _ rfl).1
 have r5:=(hR.2 7 _ rfl).1
 have zX1:w.heap.size + 2 ≤ W0.heap.size:=Nat.le_trans (by rw [hXs];exact Nat.le_refl _) hb0.size
 have BZ:Below w.heap.size w wz:=BX.trans ((hb0.trans (hbz.mono hb0.size)).mono BX.size)
 have kTz:=kT0.below_ hbz kT0.lt
 have zTz:=kTz.lt
 clear hd hR p0 p1 p2
 obtain ⟨y0,y1,y2⟩:=zc3 kTz
 obtain ⟨yf0,yf1,yf2,-⟩:=zf kTz
 refine late_one (by simp only [zy5,zy6,zy7];rfl) (fun K Q' hK => ?_)
 go_simp
 refine hK.out _ ?_
 clear hK K Q'
 go_wp2_with fail
 obtain ⟨W,hW⟩:∃ W,setN wz (w.heap.size + 1) 0 [.slice A1 k0.cells.length d1,.slice A2 k0.jobs.length d2,.int .i64 k0.room] = W:=⟨_,rfl⟩
 have hWn:World.setCell (World.setCell (World.setCell wz ⟨w.heap.size + 1,0,none⟩ (.slice A1 k0.cells.length d1)) ⟨w.heap.size + 1,1,none⟩ (.slice A2 k0.jobs.length d2)) ⟨w.heap.size + 1,2,none⟩ (.int .i64 k0.room) = W:=hW
 have kW:=zsw hW kTz
 have bW:=zbw hW BZ (by omega)
 have o1W:OwnE ctE W (w.heap.size + 2) A1 d1 k0.cells:=by rw [← hW];exact (o1.base_ (by omega)).farN (by exact Nat.lt_succ_self _) _
 have o2W:OwnE jbE W (w.heap.size + 2) A2 d2 k0.jobs:=by rw [← hW];exact (o2.base_ (by omega)).farN (by exact Nat.lt_succ_self _) _
 rw [hWn]
 clear hWn hW y0 yf0 y1 yf1 y2 yf2
 refine bodyPost_ret (by simp [results,Tryz.results142,go_sem,zc3 kW] <;> rfl) rfl ?_
 exact ⟨A1,d1,A2,d2,rfl,o1W.base_ (by omega),o2W.base_ (by omega),bW⟩
theorem rsCheck_any (A B:Option Addr) (c d:Nat) (s:Sts) (w:World) (ha:SR intE w A s.refs) (la:s.refs.length ≤ 1000) (lb:s.busy.length ≤ 1000) {z:Int} {k0:Nat} (h:chkT s = (z,k0)) :
  Calls Tryz.prog 114 #[stV A c B d s] w fun e w' => e = .returned (.tuple #[.int .i64 z,.int .i64 k0])∧Below w.heap.size w w':=by
 obtain ⟨refs,busy⟩:=s
 dsimp only at *
 have HA:=Lib.hid ha.sl
 obtain ⟨n,hn⟩:∃ n,refs.length = n:=⟨_,rfl⟩
 obtain ⟨m,hm⟩:∃ m,busy.length = m:=⟨_,rfl⟩
 unfold stV
 unfold chkT at h
 dsimp only at h ⊢
 rw [hn,hm] at h ⊢
 have HN:=Lib.hid hn
 rw [hn] at la
 rw [hm] at lb
 clear ha hn hm
 by_cases h1:n < 1
 ·rw [if_pos (.inl h1)] at h
  cases h
  have i1:(n:Int) < 1:=by omega
  go_enter Tryz.func114,Tryz.ntmps114
  go_wp2_with fail
  refine bodyPost_ret (by simp [results,Tryz.results114,go_sem] <;> rfl) rfl ?_
  exact ⟨rfl,zbl⟩
 ·by_cases h2:256 < n
  ·rw [if_pos (.inr h2)] at h
   cases h
   have i1:¬ (n:Int) < 1:=by omega
   have i2:(256:Int) < n:=by omega
   go_enter Tryz.func114,Tryz.ntmps114
   go_wp2_with fail
   refine bodyPost_ret (by simp [results,Tryz.results114,go_sem] <;> rfl) rfl ?_
   exact ⟨rfl,zbl⟩
  ·rw [if_neg (by omega)] at h
   have i1:¬ (n:Int) < 1:=by omega
   have i2:¬ (256:Int) < n:=by omega
   by_cases h3:m ≠ n
   ·rw [if_pos h3] at h
    cases h
    have i3:((m:Int) != (n:Int)) = true:=by simp;omega
    go_enter Tryz.func114,Tryz.ntmps114
    go_wp2_with fail
    refine bodyPost_ret (by simp [results,Tryz.results114,go_sem] <;> rfl) rfl ?_
    exact ⟨rfl,zbl⟩
   ·rw [if_neg h3] at h
    obtain rfl:m = n:=by omega
    have HH:Hid ((match refs.findIdx? (fun r => decide (r < 0 ∨ 512 < r)) with | none => ((0:Int),0) | some i => (15,i)) = (z,k0)):=h
    clear h
    go_enter Tryz.func114,Tryz.ntmps114
    go_wp2_with fail
    obtain ⟨V,hV⟩:∃ V,w.alloc (.cells #[.slice A m c,.slice B m d] 25) = V:=⟨_,rfl⟩
    have kV:Blk V w.heap.size 25 #[.slice A m c,.slice B m d]:=by rw [← hV];exact zbk
    have BV:Below w.heap.size w V:=by rw [← hV];exact zbl
    have zV:=kV.lt
    rw [hV]
    clear hV
    go_loopw [4] (fun i wr => ∃ k:Nat,k ≤ m∧i = .int .i64 k∧Hid (∀ j y,j < k→refs[j]? = some y→0 ≤ y∧y ≤ 512)∧Below V.heap.size V wr) (fun i _ => m - (intOf i).toNat)
    case atStart => exact ⟨0,by omega,rfl,(fun j y hj => by omega),Below.refl _ _⟩
    case round =>
     obtain ⟨k,hk,rfl,HR,hbw⟩:=hrel
     have hb:=zbt BV hbw
     have p0:wr.cell? ⟨w.heap.size,0,none⟩ = some (.slice A m c):=by simpa using (kV.below_ hbw zV).cell_ 0
     have zr:w.heap.size < wr.heap.size:=Nat.lt_of_lt_of_le zV hbw.size
     by_cases hlt:k < m
     ·obtain ⟨b,off,x,rfl,hbl,hx,q0⟩:=(HA.out.ext hb).at_ (k:=k) (by rw [HN.out];exact hlt)
      have i3:(k:Int) < m:=by omega
      by_cases e1:x < 0
      ·have hc:=HH.out
       rw [find_at hx HR.out (.inl e1)] at hc
       cases hc
       go_wp2_with fail
       refine bodyPost_ret (by simp [results,Tryz.results114,go_sem] <;> rfl) rfl ?_
       exact ⟨rfl,hb⟩
      ·by_cases e2:512 < x
       ·have hc:=HH.out
        rw [find_at hx HR.out (.inr e2)] at hc
        cases hc
        go_wp2_with fail
        refine bodyPost_ret (by simp [results,Tryz.results114,go_sem] <;> rfl) rfl ?_
        exact ⟨rfl,hb⟩
       ·have HR2:Hid (∀ j y,j < k + 1→refs[j]? = some y→0 ≤ y∧y ≤ 512):=fun j y hj hy => by
         by_cases e:j = k
         ·rw [e,hx] at hy;cases hy;omega
         ·exact HR.out j y (by omega) hy
        clear hx
        go_wp2_with fail
        go_roundw
        case rel => exact ⟨k + 1,by omega,by go_num,HR2.out,hbw⟩
        case measure => simp [intOf];omega
     ·obtain rfl:k = m:=by omega
      have hc:=HH.out
      rw [find_no (fun j y hj => HR.out j y (by have:=HN.out;omega))] at hc
      cases hc
      go_wp2_with fail
      refine bodyPost_ret (by simp [results,Tryz.results114,go_sem] <;> rfl) rfl ?_
      exact ⟨rfl,hb⟩
theorem rsAsked_any (A B:Option Addr) (c d:Nat) (s:Sts) (i:Int) (w:World) (ha:SR intE w A s.refs) (hok:OkT s) :
  Calls Tryz.prog 145 #[stV A c B d s,.int .i64 i] w fun e w' => e = .returned (.int .i64 (askT s i))∧Below w.heap.size w w':=by
 have hzz:=chkT_zero hok
 obtain ⟨l1,l2⟩:=hok.len
 have hbl:=hok.blen
 obtain ⟨z,hz⟩:∃ z,askT s i = z:=⟨_,rfl⟩
 rw [hz]
 unfold askT at hz
 rw [hzz,if_neg (by simp)] at hz
 have HC:=Lib.hid (fun W h => rsCheck_any A B c d s W h (by omega) (by omega) hzz)
 have HA:=Lib.hid ha
 clear ha hzz hok hbl
 unfold stV at HC ⊢
 obtain ⟨X,hX⟩:∃ X,w.alloc (.cells #[.slice A s.refs.length c,.slice B s.busy.length d] 25) = X:=⟨_,rfl⟩
 have kX:Blk X w.heap.size 25 #[.slice A s.refs.length c,.slice B s.busy.length d]:=by rw [← hX];exact zbk
 have BX:Below w.heap.size w X:=by rw [← hX];exact zbl
 have zX:=kX.lt
 obtain ⟨q0,q1⟩:=zc2 kX
 by_cases h1:i < 0
 ·rw [if_pos (.inl h1)] at hz
  subst hz
  have d1:decide (i < 0) = true:=by simpa using h1
  clear h1
  go_enter Tryz.func145,Tryz.ntmps145
  go_wp2_with fail
  (try rw [hX])
  clear hX
  refine (HC.out X (HA.out.ext BX)).mono ?_
  rintro e1 w1 ⟨rfl,hb1⟩
  go_wp2_with fail
  go_ret
  exact ⟨rfl,BX.trans (hb1.mono BX.size)⟩
 ·have d1:decide (i < 0) = false:=by simpa using h1
  obtain ⟨g,hg⟩:∃ g,decide (i ≥ (s.refs.length:Int)) = g:=⟨_,rfl⟩
  have hzg:z = if g = true then 2 else 0:=by
   rw [← hz,← hg]
   by_cases h2:(s.refs.length:Int) ≤ i
   ·rw [if_pos (.inr h2),if_pos (by simpa using h2)]
   ·rw [if_neg (by omega),if_neg (by simpa using h2)]
  have HZ:=Lib.hid hzg
  clear h1 hz hzg
  go_enter Tryz.func145,Tryz.ntmps145
  go_wp2_with fail
  (try rw [hX])
  clear hX
  refine (HC.out X (HA.out.ext BX)).mono ?_
  rintro e1 w1 ⟨rfl,hb1⟩
  have kX1:=kX.below_ hb1 zX
  have B1:=BX.trans (hb1.mono BX.size)
  have zX1:=kX1.lt
  clear q0 q1 hb1
  obtain ⟨q0,-⟩:=zc2 kX1
  cases g with
  | true =>
   go_wp2_with fail
   go_ret
   exact ⟨by rw [HZ.out];rfl,B1⟩
  | false =>
   go_wp2_with fail
   go_ret
   exact ⟨by rw [HZ.out];rfl,B1⟩
theorem rsWith_any (A B:Option Addr) (c d:Nat) (s:Sts) (k:Nat) (r:Int) (b:Bool) (w:World) (ha:SR intE w A s.refs) (hb:SR boolE w B s.busy) (la:s.refs.length ≤ 1000) (hbl:s.busy.length = s.refs.length) (hk:k < s.refs.length) :
  Calls Tryz.prog 115 #[stV A c B d s,.int .i64 k,.int .i64 r,.bool b] w (BkPost (witT s k r b) w):=by
 have HA:=Lib.hid ha
 have HB:=Lib.hid hb
 have lb:s.busy.length ≤ 1000:=by omega
 have HBL:=Lib.hid hbl
 unfold stV
 clear ha hb hbl
 obtain ⟨X,hX⟩:∃ X,(w.alloc (.cells #[.slice A s.refs.length c,.slice B s.busy.length d] 25)).alloc (.cells #[.slice none 0 0,.slice none 0 0] 25) = X:=⟨_,rfl⟩
 have kD:Blk X w.heap.size 25 #[.slice A s.refs.length c,.slice B s.busy.length d]:=by rw [← hX];exact zbk
 have kT:=za2 hX
 have BX:Below w.heap.size w X:=by rw [← hX];exact zbl
 have hXs:X.heap.size = w.heap.size + 2:=by rw [← hX];simp
 replace HA:=Lib.hid (HA.out.ext BX)
 replace HB:=Lib.hid (HB.out.ext BX)
 go_enter Tryz.func115,Tryz.ntmps115
 go_wp2_with fail
 (try rw [hX])
 clear hX
 refine zrg [2,0,1,2,2,0,1,2,0,2,3] [[],[],[],[],[],[],[],[],[3,7],[],[]] [.has (LitE),.is ?_,.kn ?_,.has (ClnF intE s.refs s.refs.length),.has (LitE),.is ?_,.kn ?_,.has (ClnF boolE s.busy s.busy.length),.fn [3,7] (fun l => .agg #[l.getD 0 undef,l.getD 1 undef]),.has (VarN 25 [.slice none 0 0,.slice none 0 0]),.late] [10] (lts_has (LitE.lasts) (lts_is (lts_kn (lts_has (ClnF.lasts intE s.refs _) (lts_has (LitE.lasts) (lts_is (lts_kn (lts_has (ClnF.lasts boolE s.busy _) (lts_fn (lts_has (VarN.lasts 25 [.slice none 0 0,.slice none 0 0]) (lts_late lts_nil))))))))))) (fun W0 hb0 hz0 => ?_)
 rotate_left 4
 have kW:=kD.below_ hb0 kD.lt
 have zW:=kW.lt
 have kT0:=kT.below_ hb0 kT.lt
 replace HA:=Lib.hid (HA.out.ext hb0)
 replace HB:=Lib.hid (HB.out.ext hb0)
 obtain ⟨p0,p1⟩:=zc2 kW
 refine zqh (fun w hbw hd K Q' hK => ?_) (fun vwt0 => ?_)
 ·clear hd
  go_simp
  exact hK.out (.slice (some ⟨w.heap.size,0,none⟩) 0 0) _ _ zpt zbm ⟨_,rfl⟩
 refine zqp ?_
 refine zqT (fun w hbw hd => ?_) ?_
 ·have q1:=cell_keep hbw p0 zW
  exact zgs
 refine zqh (fun w hbw hd K Q' hK => ?_) (fun vwt3 => ?_)
 ·obtain ⟨_,_,g,rfl⟩:∃ lo hi,LitE vwt0 lo hi w:=hd 0 _ _ (by kernel_rfl) rfl rfl
  clear hd
  refine step_appF intE rfl (.tmp 10) (.tmp 12) _ rfl rfl w g A c s.refs.length s.refs rfl (HA.out.ext hbw) la rfl rfl ?_
  intro A' c' y ho hy
  exact hK.out (.slice A' s.refs.length c') _ _ zpt zbm ⟨A',c',rfl,ho⟩
 refine zqh (fun w hbw hd K Q' hK => ?_) (fun vwt4 => ?_)
 ·clear hd
  go_simp
  exact hK.out (.slice (some ⟨w.heap.size,0,none⟩) 0 0) _ _ zpt zbm ⟨_,rfl⟩
 refine zqp ?_
 refine zqT (fun w hbw hd => ?_) ?_
 ·have q1:=cell_keep hbw p1 zW
  exact zgs
 refine zqh (fun w hbw hd K Q' hK => ?_) (fun vwt7 => ?_)
 ·obtain ⟨_,_,g,rfl⟩:∃ lo hi,LitE vwt4 lo hi w:=hd 4 _ _ (by kernel_rfl) rfl rfl
  clear hd
  refine step_appF boolE rfl (.tmp 14) (.tmp 16) _ rfl rfl w g B d s.busy.length s.busy rfl (HB.out.ext hbw) lb rfl rfl ?_
  intro A' c' y ho hy
  exact hK.out (.slice A' s.busy.length c') _ _ zpt zbm ⟨A',c',rfl,ho⟩
 refine zqF (.agg #[vwt3,vwt7]) (fun w0 hd w => ?_) ?_
 ·obtain ⟨_,_,A',d',rfl,_⟩:∃ lo hi,ClnF intE s.refs s.refs.length vwt3 lo hi w0:=hd 3 _ _ (by kernel_rfl) rfl rfl
  obtain ⟨_,_,B',d',rfl,_⟩:∃ lo hi,ClnF boolE s.busy s.busy.length vwt7 lo hi w0:=hd 7 _ _ (by kernel_rfl) rfl rfl
  exact zsr
 refine zqh (fun w hbw hd K Q' hK => ?_) (fun vwt9 => ?_)
 ·clear hd
  go_simp
  exact hK.out (.pointer (some ⟨w.heap.size,0,none⟩)) _ _ zpt zbm ⟨_,rfl,Blk.new_ rfl rfl,Nat.le_refl _,by simp⟩
 refine zql ?_
 refine chn_end (fun wz lo hi hbz hd hR => ?_)
 obtain ⟨A1,d1,rfl,o1⟩:ClnF intE s.refs s.refs.length vwt3 (lo 3) (hi 3) wz:=hd 3 _ _ rfl rfl
 obtain ⟨A2,d2,rfl,o2⟩:ClnF boolE s.busy s.busy.length vwt7 (lo 7) (hi 7) wz:=hd 7 _ _ rfl rfl
 obtain ⟨G,rfl,kG,hlo,hhi⟩:VarN 25 [.slice none 0 0,.slice none 0 0] vwt9 (lo 9) (hi 9) wz:=hd 9 _ _ rfl rfl
 have r2:=(hR.2 3 _ rfl).1
 have r5:=(hR.2 7 _ rfl).1
 have r9:=(hR.2 9 _ rfl).1
 have zX1:w.heap.size + 2 ≤ W0.heap.size:=Nat.le_trans (by rw [hXs];exact Nat.le_refl _) hb0.size
 have BZ:Below w.heap.size w wz:=BX.trans ((hb0.trans (hbz.mono hb0.size)).mono BX.size)
 have kTz:=kT0.below_ hbz kT0.lt
 have zGl:W0.heap.size ≤ G:=by omega
 have zG:=kG.lt
 clear hd hR p0 p1
 have y0:=zc kG 0
 have y1:=zc kG 1
 obtain ⟨yf0,yf1,-⟩:=zf kG
 refine late_one (by simp only [zy5,zy6,zy7];rfl) (fun K Q' hK => ?_)
 go_simp
 refine hK.out _ ?_
 clear hK K Q'
 obtain ⟨V,hV⟩:∃ V,(wz.setCell ⟨G,0,none⟩ (.slice A1 s.refs.length d1)).setCell ⟨G,1,none⟩ (.slice A2 s.busy.length d2) = V:=⟨_,rfl⟩
 have kV:Blk V G 25 #[.slice A1 s.refs.length d1,.slice A2 s.busy.length d2]:=by rw [← hV];exact (kG.set_ 0 _).set_ 1 _
 have kTV:Blk V (w.heap.size + 1) 25 #[.slice none 0 0,.slice none 0 0]:=by rw [← hV];exact (kTz.far_ (by show w.heap.size + 1 ≠ G;omega) _).far_ (by show w.heap.size + 1 ≠ G;omega) _
 have BV:Below w.heap.size w V:=by rw [← hV];exact (BZ.setCell (p:=⟨G,0,none⟩) (by show w.heap.size ≤ G;omega) _).setCell (p:=⟨G,1,none⟩) (by show w.heap.size ≤ G;omega) _
 have o1V:OwnE intE V W0.heap.size A1 d1 s.refs:=by rw [← hV];exact ((o1.base_ r2).farB kG (by decide) 0 _).farB (kG.set_ 0 _) (by decide) 1 _
 have o2V:OwnE boolE V W0.heap.size A2 d2 s.busy:=by rw [← hV];exact ((o2.base_ r5).farB kG (by decide) 0 _).farB (kG.set_ 0 _) (by decide) 1 _
 rw [hV]
 clear hV y0 y1 yf0 yf1 o1 o2
 have w1R:OwnR intE V W0.heap.size (.slice A1 s.refs.length d1) s.refs:=o1V.own.resolve_left (fun e => by rw [e] at hk;simp at hk)
 have w2R:OwnR boolE V W0.heap.size (.slice A2 s.busy.length d2) s.busy:=o2V.own.resolve_left (fun e => by have h:=HBL.out;rw [e] at h;simp at h;omega)
 obtain ⟨g1,rfl,hg1,hl1⟩:=w1R.at0 (by omega)
 obtain ⟨g2,rfl,hg2,hl2⟩:=w2R.at0 (by have:=HBL.out;omega)
 obtain ⟨x1,hx1⟩:∃ x,s.refs[k]? = some x:=⟨_,List.getElem?_eq_getElem hk⟩
 obtain ⟨x2,hx2⟩:∃ x,s.busy[k]? = some x:=⟨_,List.getElem?_eq_getElem (by have:=HBL.out;omega)⟩
 obtain ⟨c1,f1,_⟩:=OwnR.cell1 (E:=intE) rfl w1R hx1 (v:=.int .i64 x1) rfl
 have i1:(k:Int) < s.refs.length:=by omega
 have i2:(k:Int) < s.busy.length:=by have:=HBL.out;omega
 have n12:g1 ≠ g2:=by
  obtain ⟨_,k1⟩:=w1R.blk0 hk
  obtain ⟨_,k2⟩:=w2R.blk0 (k:=k) (by have:=HBL.out;omega)
  exact k1.ne_ k2 (by decide)
 have n1G:g1 ≠ G:=by
  obtain ⟨_,k1⟩:=w1R.blk0 hk
  exact k1.ne_ kV (by decide)
 have n2G:g2 ≠ G:=by
  obtain ⟨_,k2⟩:=w2R.blk0 (k:=k) (by have:=HBL.out;omega)
  exact k2.ne_ kV (by decide)
 have zV:=kV.lt
 have u0:=zc kV 0
 have u1:=zc kV 1
 go_upto_region 3 with fail
 obtain ⟨V2,hV2⟩:∃ W,V.setCell ⟨g1,k,none⟩ (.int .i64 r) = W:=⟨_,rfl⟩
 have kV2:Blk V2 G 25 #[.slice (some ⟨g1,0,none⟩) s.refs.length d1,.slice (some ⟨g2,0,none⟩) s.busy.length d2]:=by rw [← hV2];exact kV.far_ (by show G ≠ g1;exact fun e => n1G e.symm) _
 have kTV2:Blk V2 (w.heap.size + 1) 25 #[.slice none 0 0,.slice none 0 0]:=by rw [← hV2];exact kTV.far_ (by show w.heap.size + 1 ≠ g1;omega) _
 have BV2:Below w.heap.size w V2:=by rw [← hV2];exact BV.setCell (p:=⟨g1,k,none⟩) (by show w.heap.size ≤ g1;omega) _
 have w1R2:OwnR intE V2 W0.heap.size (.slice (some ⟨g1,0,none⟩) s.refs.length d1) (s.refs.set k r):=by rw [← hV2];exact OwnR.set1 (E:=intE) rfl w1R hk r rfl
 have w2R2:OwnR boolE V2 W0.heap.size (.slice (some ⟨g2,0,none⟩) s.busy.length d2) s.busy:=by rw [← hV2];exact w2R.far' (p:=⟨g1,k,none⟩) (by show g2 ≠ g1;exact fun e => n12 e.symm) _
 rw [hV2]
 clear hV2 u0 u1 c1 f1
 obtain ⟨c2,f2,_⟩:=OwnR.cell1 (E:=boolE) rfl w2R2 hx2 (v:=.bool x2) rfl
 have zV2:=kV2.lt
 obtain ⟨u0,u1⟩:=zc2 kV2
 go_upto_region 4 with fail
 obtain ⟨V3,hV3⟩:∃ W,V2.setCell ⟨g2,k,none⟩ (.bool b) = W:=⟨_,rfl⟩
 have kV3:Blk V3 G 25 #[.slice (some ⟨g1,0,none⟩) s.refs.length d1,.slice (some ⟨g2,0,none⟩) s.busy.length d2]:=by rw [← hV3];exact kV2.far_ (by show G ≠ g2;exact fun e => n2G e.symm) _
 have kTV3:Blk V3 (w.heap.size + 1) 25 #[.slice none 0 0,.slice none 0 0]:=by rw [← hV3];exact kTV2.far_ (by show w.heap.size + 1 ≠ g2;omega) _
 have BV3:Below w.heap.size w V3:=by rw [← hV3];exact BV2.setCell (p:=⟨g2,k,none⟩) (by show w.heap.size ≤ g2;omega) _
 have w1R3:OwnR intE V3 W0.heap.size (.slice (some ⟨g1,0,none⟩) s.refs.length d1) (s.refs.set k r):=by rw [← hV3];exact w1R2.far' (p:=⟨g2,k,none⟩) (by show g1 ≠ g2;exact n12) _
 have w2R3:OwnR boolE V3 W0.heap.size (.slice (some ⟨g2,0,none⟩) s.busy.length d2) (s.busy.set k b):=by rw [← hV3];exact OwnR.set1 (E:=boolE) rfl w2R2 (by have:=HBL.out;omega) b rfl
 rw [hV3]
 clear hV3 u0 u1 c2 f2
 have zV3:=kV3.lt
 have zT3:=kTV3.lt
 obtain ⟨u0,u1⟩:=zc2 kV3
 obtain ⟨t0,t1⟩:=zc2 kTV3
 obtain ⟨tf0,tf1,-⟩:=zf kTV3
 go_wp2_with fail
 obtain ⟨W,hW⟩:∃ W,setN V3 (w.heap.size + 1) 0 [.slice (some ⟨g1,0,none⟩) s.refs.length d1,.slice (some ⟨g2,0,none⟩) s.busy.length d2] = W:=⟨_,rfl⟩
 have hWn:World.setCell (World.setCell V3 ⟨w.heap.size + 1,0,none⟩ (.slice (some ⟨g1,0,none⟩) s.refs.length d1)) ⟨w.heap.size + 1,1,none⟩ (.slice (some ⟨g2,0,none⟩) s.busy.length d2) = W:=hW
 have kW:=zsw hW kTV3
 have bW:=zbw hW BV3 (by omega)
 have o1W:OwnE intE W (w.heap.size + 2) (some ⟨g1,0,none⟩) d1 (s.refs.set k r):=by rw [← hW];exact ((OwnE.of_own w1R3 (by simp)).base_ (by omega)).farN (by exact Nat.lt_succ_self _) _
 have o2W:OwnE boolE W (w.heap.size + 2) (some ⟨g2,0,none⟩) d2 (s.busy.set k b):=by rw [← hW];exact ((OwnE.of_own w2R3 (by simp)).base_ (by omega)).farN (by exact Nat.lt_succ_self _) _
 rw [hWn]
 clear hWn hW t0 t1 tf0 tf1 u0 u1
 refine bodyPost_ret (by simp [results,Tryz.results115,go_sem,zc2 kW] <;> rfl) rfl ?_
 exact ⟨_,d1,_,d2,by simp [stV,witT],o1W.base_ (by omega),o2W.base_ (by omega),bW⟩
theorem rdSlot_any (A B:Option Addr) (c d n m:Nat) (room x:Int) (w:World):Calls Tryz.prog 166 #[.agg #[.slice A n c,.slice B m d,.int .i64 room],.int .i64 x] w fun e w' => e = .returned (.bool (decide (0 ≤ x∧x < n)))∧Below w.heap.size w w':=by
 have HE:Hid (decide (0 ≤ x∧x < (n:Int)) = (decide (x ≥ 0) && decide (x < (n:Int)))):=by show _ = _;simp
 cases d1:decide (x ≥ 0) with
 | true =>
  go_enter Tryz.func166,Tryz.ntmps166
  go_wp2_with fail;go_ret;exact ⟨by rw [HE.out,d1];simp,zbl⟩
 | false =>
  go_enter Tryz.func166,Tryz.ntmps166
  go_wp2_with fail;go_ret;exact ⟨by rw [HE.out,d1];simp,zbl⟩
theorem rdFrame_any (x:Int) (w:World):Calls Tryz.prog 167 #[.int .i64 x] w fun e w' => e = .returned (.bool (decide (0 ≤ x∧x < 256)))∧w = w':=by
 have HE:Hid (decide (0 ≤ x∧x < 256) = (decide (x ≥ 0) && decide (x < 256))):=by show _ = _;simp
 cases d1:decide (x ≥ 0) with
 | true =>
  go_enter Tryz.func167,Tryz.ntmps167
  go_wp2_with fail;go_ret;exact ⟨by rw [HE.out,d1];simp,rfl⟩
 | false =>
  go_enter Tryz.func167,Tryz.ntmps167
  go_wp2_with fail;go_ret;exact ⟨by rw [HE.out,d1];simp,rfl⟩
theorem hitD_succ {l:List Jb} {q:Nat} {y:Jb} {a b:Int} (h:l[q]? = some y):hitD (l.take (q + 1)) a b = (hitD (l.take q) a b || decide (y.slot = a ∨ y.frame = b)):=by
 unfold hitD;rw [List.take_add_one,h,List.any_append];simp
theorem hitD_mono {l:List Jb} {q k:Nat} {a b:Int} (hq:q ≤ k) (h:hitD (l.take q) a b = true):hitD (l.take k) a b = true:=by
 unfold hitD at *;rw [List.any_eq_true] at *;obtain ⟨y,hy,h⟩:=h;exact ⟨y,(List.take_subset_take_left l hq) hy,h⟩
theorem rdCheck_any (A B:Option Addr) (c d:Nat) (k0:Dsk) (w:World) (hb:SR jbE w B k0.jobs) (la:k0.cells.length ≤ 1000) (lb:k0.jobs.length ≤ 1000) {z:Int} {n0:Nat} (h:chkD k0 = (z,n0)) :
  Calls Tryz.prog 132 #[dkV A c B d k0] w fun e w' => e = .returned (.tuple #[.int .i64 z,.int .i64 n0])∧Below w.heap.size w w':=by
 obtain ⟨n,hn⟩:∃ n,k0.cells.length = n:=⟨_,rfl⟩
 obtain ⟨m,hm⟩:∃ m,k0.jobs.length = m:=⟨_,rfl⟩
 obtain ⟨room,hr⟩:∃ room,k0.room = room:=⟨_,rfl⟩
 unfold dkV
 unfold chkD at h
 rw [hn,hm,hr] at h ⊢
 have HB:=Lib.hid hb
 have HN:=Lib.hid hn
 have HM:=Lib.hid hm
 rw [hn] at la
 rw [hm] at lb
 clear hb hn hm hr
 by_cases h1:n < 1 ∨ 256 < n ∨ room < 1 ∨ 32 < room
 ·rw [if_pos h1] at h
  cases h
  rcases (by omega:n < 1 ∨ (1 ≤ n∧256 < n) ∨ (1 ≤ n∧n ≤ 256∧room < 1) ∨ (1 ≤ n∧n ≤ 256∧1 ≤ room∧32 < room)) with h1 | h1 | h1 | h1
  ·have g1:decide ((n:Int) < 1) = true:=by simp;omega
   clear h1
   go_enter Tryz.func132,Tryz.ntmps132
   go_wp2_with fail
   refine bodyPost_ret (by simp [results,Tryz.results132,go_sem] <;> rfl) rfl ?_
   exact ⟨rfl,zbl⟩
  ·have g1:decide ((n:Int) < 1) = false:=by simp;omega
   have g2:decide ((n:Int) > 256) = true:=by simp;omega
   clear h1
   go_enter Tryz.func132,Tryz.ntmps132
   go_wp2_with fail
   refine bodyPost_ret (by simp [results,Tryz.results132,go_sem] <;> rfl) rfl ?_
   exact ⟨rfl,zbl⟩
  ·have g1:decide ((n:Int) < 1) = false:=by simp;omega
   have g2:decide ((n:Int) > 256) = false:=by simp;omega
   have g3:decide (room < 1) = true:=by simp;omega
   clear h1
   go_enter Tryz.func132,Tryz.ntmps132
   go_wp2_with fail
   refine bodyPost_ret (by simp [results,Tryz.results132,go_sem] <;> rfl) rfl ?_
   exact ⟨rfl,zbl⟩
  ·have g1:decide ((n:Int) < 1) = false:=by simp;omega
   have g2:decide ((n:Int) > 256) = false:=by simp;omega
   have g3:decide (room < 1) = false:=by simp;omega
   have g4:decide (room > 32) = true:=by simp;omega
   clear h1
   go_enter Tryz.func132,Tryz.ntmps132
   go_wp2_with fail
   refine bodyPost_ret (by simp [results,Tryz.results132,go_sem] <;> rfl) rfl ?_
   exact ⟨rfl,zbl⟩
 ·rw [if_neg h1] at h
  have g1:decide ((n:Int) < 1) = false:=by simp;omega
  have g2:decide ((n:Int) > 256) = false:=by simp;omega
  have g3:decide (room < 1) = false:=by simp;omega
  have g4:decide (room > 32) = false:=by simp;omega
  by_cases h2:room < m
  ·rw [if_pos h2] at h
   cases h
   have g5:decide ((m:Int) > room) = true:=by simpa using h2
   go_enter Tryz.func132,Tryz.ntmps132
   go_wp2_with fail
   refine bodyPost_ret (by simp [results,Tryz.results132,go_sem] <;> rfl) rfl ?_
   exact ⟨rfl,zbl⟩
  ·rw [if_neg h2] at h
   have g5:decide ((m:Int) > room) = false:=by simp;omega
   have HH:Hid (chkDG k0 (k0.jobs.take 0) (k0.jobs.drop 0) = (z,n0)):=by show _ = _;simpa using h
   have hm32:m ≤ 32:=by omega
   clear h h1 h2
   go_enter Tryz.func132,Tryz.ntmps132
   go_wp2_with fail
   obtain ⟨V,hV⟩:∃ V,w.alloc (.cells #[.slice A n c,.slice B m d,.int .i64 room] 31) = V:=⟨_,rfl⟩
   have kD:Blk V w.heap.size 31 #[.slice A n c,.slice B m d,.int .i64 room]:=by rw [← hV];exact zbk
   have BV:Below w.heap.size w V:=by rw [← hV];exact zbl
   have zD:=kD.lt
   rw [hV]
   clear hV g1 g2 g3 g4 g5
   go_loopw [4] (fun i wr => ∃ k:Nat,k ≤ m∧i = .int .i64 k∧Hid (chkDG k0 (k0.jobs.take k) (k0.jobs.drop k) = (z,n0))∧Below V.heap.size V wr) (fun i _ => m - (intOf i).toNat)
   case atStart => exact ⟨0,by omega,rfl,HH.out,Below.refl _ _⟩
   case round =>
    obtain ⟨k,hk,rfl,HR,hbw⟩:=hrel
    have b1:=zbt BV hbw
    have kD1:=kD.below_ hbw zD
    have zD1:=kD1.lt
    obtain ⟨q0,q1,q2⟩:=zc3 kD1
    by_cases hlt:k < m
    ·have i1:(k:Int) < m:=by omega
     obtain ⟨b,off,x,rfl,hbl,hx,hc⟩:=(HB.out.ext b1).at_ (k:=k) (by rw [HM.out];exact hlt)
     have hcc:=HR.out
     rw [chkDG_at hx] at hcc
     have HC:=Lib.hid hcc
     clear hx hcc HR HH
     obtain ⟨jw,js,jf,⟨x0,x1,x2,x3,x4,x5,x6,x7⟩⟩:=x
     have e0:wr.cell? ⟨b,off + k * 11,none⟩ = some (.bool jw):=hc 0 _ rfl
     have e1:wr.cell? ⟨b,off + k * 11 + 1,none⟩ = some (.int .i64 js):=hc 1 _ rfl
     have e2:wr.cell? ⟨b,off + k * 11 + 2,none⟩ = some (.int .i64 jf):=hc 2 _ rfl
     have e3:wr.cell? ⟨b,off + k * 11 + 3,none⟩ = some (.int .u64 x0):=hc 3 _ rfl
     have e4:wr.cell? ⟨b,off + k * 11 + 4,none⟩ = some (.int .u64 x1):=hc 4 _ rfl
     have e5:wr.cell? ⟨b,off + k * 11 + 5,none⟩ = some (.int .u64 x2):=hc 5 _ rfl
     have e6:wr.cell? ⟨b,off + k * 11 + 6,none⟩ = some (.int .u64 x3):=hc 6 _ rfl
     have e7:wr.cell? ⟨b,off + k * 11 + 7,none⟩ = some (.int .u64 x4):=hc 7 _ rfl
     have e8:wr.cell? ⟨b,off + k * 11 + 8,none⟩ = some (.int .u64 x5):=hc 8 _ rfl
     have e9:wr.cell? ⟨b,off + k * 11 + 9,none⟩ = some (.int .u64 x6):=hc 9 _ rfl
     have e10:wr.cell? ⟨b,off + k * 11 + 10,none⟩ = some (.int .u64 x7):=hc 10 _ rfl
     go_upto_region 9 with fail
     obtain ⟨V6,hV6⟩:∃ V6,wr.alloc (.cells (zkj jw js jf x0 x1 x2 x3 x4 x5 x6 x7).toArray 115) = V6:=⟨_,rfl⟩
     have kJ:=za hV6
     have B6:=zab hV6
     rw [hV6]
     have kD6:=kD1.below_ B6 zD1
     have b6:=zbt hbw B6
     have zJ:=kJ.lt
     have zD6:=kD6.lt
     clear hV6 hc e0 e1 e2 e3 e4 e5 e6 e7 e8 e9 e10 q0 q1 q2
     obtain ⟨q0,q1,q2⟩:=zc3 kD6
     obtain ⟨-,j1,j2,-⟩:=zc11 kJ
     go_wp2_with fail
     refine (rdSlot_any A (some ⟨b,off,none⟩) c d n m room js V6).mono ?_
     rintro e1 w1 ⟨rfl,hb1⟩
     have kD7:=kD6.below_ hb1 zD6
     have kJ7:=kJ.below_ hb1 zJ
     have b7:=zbt b6 hb1
     have zJ7:=kJ7.lt
     have zD7:=kD7.lt
     have zrw:wr.heap.size ≤ w1.heap.size:=Nat.le_of_lt zJ7
     have b7r:=zbt B6 hb1
     clear hb1 q0 q1 q2 j1 j2
     obtain ⟨j0,j1,j2,j3,j4,j5,j6,j7,j8,j9,j10⟩:=zc11 kJ7
     obtain ⟨q0,q1,q2⟩:=zc3 kD7
     cases d1:decide (0 ≤ js∧js < (n:Int)) with
     | false =>
      have hcc:=HC.out
      rw [show inD k0 js jf = false from by unfold inD;rw [HN.out];have:=of_decide_eq_false d1;exact decide_eq_false (by omega)] at hcc
      simp only [Bool.not_false,if_true,Prod.mk.injEq] at hcc
      obtain ⟨rfl,rfl⟩:=hcc
      go_wp2_with fail
      refine bodyPost_ret (by simp [results,Tryz.results132,go_sem] <;> rfl) rfl ?_
      exact ⟨rfl,BV.trans (b7.mono BV.size)⟩
     | true =>
      cases d2:decide (0 ≤ jf∧jf < 256) with
      | false =>
       have hcc:=HC.out
       rw [show inD k0 js jf = false from by unfold inD;rw [HN.out];have:=of_decide_eq_false d2;exact decide_eq_false (by omega)] at hcc
       simp only [Bool.not_false,if_true,Prod.mk.injEq] at hcc
       obtain ⟨rfl,rfl⟩:=hcc
       go_wp2_with (go_at_call 167;refine (rdFrame_any jf _).mono ?_;rintro e w' ⟨rfl,rfl⟩;rw [d2])
       refine bodyPost_ret (by simp [results,Tryz.results132,go_sem] <;> rfl) rfl ?_
       exact ⟨rfl,BV.trans (b7.mono BV.size)⟩
      | true =>
       have hcc:=HC.out
       rw [show inD k0 js jf = true from by unfold inD;rw [HN.out];have:=of_decide_eq_true d1;have:=of_decide_eq_true d2;exact decide_eq_true (by omega)] at hcc
       simp only [Bool.not_true,Bool.false_eq_true,if_false] at hcc
       have HC2:=Lib.hid hcc
       clear hcc HC
       go_wp2_with (go_at_call 167;refine (rdFrame_any jf _).mono ?_;rintro e w' ⟨rfl,rfl⟩;rw [d2])
       clear d1 d2 j0 j1 j2 j3 j4 j5 j6 j7 j8 j9 j10 q0 q1 q2 i1
       obtain ⟨wo,rfl⟩:∃ wo,wo = wr:=⟨_,rfl⟩
       go_loopw [6] (fun i wq => ∃ q:Nat,q ≤ k∧i = .int .i64 q∧Hid (hitD (k0.jobs.take q) js jf = false)∧Below w1.heap.size w1 wq) (fun i _ => k - (intOf i).toNat)
       case atStart => exact ⟨0,by omega,rfl,rfl,Below.refl _ _⟩
       case round =>
        obtain ⟨q,hq,rfl,HNO,hbq⟩:=hrel
        have b8:=zbt b7 hbq
        have kD8:=kD7.below_ hbq zD7
        have kJ8:=kJ7.below_ hbq zJ7
        have zD8:=kD8.lt
        have zJ8:=kJ8.lt
        obtain ⟨q0,q1,q2⟩:=zc3 kD8
        obtain ⟨j0,j1,j2,j3,j4,j5,j6,j7,j8,j9,j10⟩:=zc11 kJ8
        by_cases hql:q < k
        ·obtain ⟨b2,off2,y,hA2,hbl2,hy,hc2⟩:=(HB.out.ext (BV.trans (b8.mono BV.size))).at_ (k:=q) (by rw [HM.out];omega)
         injection hA2 with hA2
         injection hA2 with h3 h4
         subst h3 h4
         obtain ⟨yw,ys,yf,yd⟩:=y
         have e1:wr.cell? ⟨b,off + q * 11 + 1,none⟩ = some (.int .i64 ys):=hc2 1 _ rfl
         have e2:wr.cell? ⟨b,off + q * 11 + 2,none⟩ = some (.int .i64 yf):=hc2 2 _ rfl
         have HS:=Lib.hid (hitD_succ (a:=js) (b:=jf) hy)
         have i2:(q:Int) < m:=by omega
         have i3:(q:Int) < k:=by omega
         have HHIT:Hid (hitD (k0.jobs.take (q + 1)) js jf = true→(z,n0) = ((10:Int),k)):=fun h => by
          have:=HC2.out
          rw [hitD_mono (by omega) h,if_pos rfl] at this
          exact this.symm
         clear hc2 hy
         by_cases s1:ys = js
         ·have h:=HHIT.out (by rw [HS.out,decide_eq_true (.inl s1),Bool.or_true])
          obtain ⟨rfl,rfl⟩:=Prod.mk.inj h
          have s1b:(ys == js) = true:=by simpa using s1
          clear s1 h HHIT HC2
          go_wp2_with fail
          go_quiet (fail)
          go_wp2_with fail
          refine bodyPost_ret (by simp [results,Tryz.results132,go_sem] <;> rfl) rfl ?_
          exact ⟨rfl,BV.trans (Below.mono (show Below V.heap.size V _ from zbl) BV.size)⟩
         ·have s1b:(ys == js) = false:=by simpa using s1
          by_cases s2:yf = jf
          ·have h:=HHIT.out (by rw [HS.out,decide_eq_true (.inr s2),Bool.or_true])
           obtain ⟨rfl,rfl⟩:=Prod.mk.inj h
           have s2b:(yf == jf) = true:=by simpa using s2
           clear s1 s2 h HHIT HC2
           go_wp2_with fail
           go_quiet (fail)
           go_wp2_with fail
           refine bodyPost_ret (by simp [results,Tryz.results132,go_sem] <;> rfl) rfl ?_
           exact ⟨rfl,BV.trans (Below.mono (show Below V.heap.size V _ from zbl) BV.size)⟩
          ·have s2b:(yf == jf) = false:=by simpa using s2
           have HN2:Hid (hitD (k0.jobs.take (q + 1)) js jf = false):=by
            show _ = _
            rw [HS.out,HNO.out,decide_eq_false (fun h => h.elim s1 s2)]
            rfl
           clear s1 s2
           go_wp2_with fail
           go_quiet (fail)
           go_wp2_with fail
           go_roundw
           case rel => exact ⟨q + 1,by omega,by go_num,HN2.out,zbl⟩
           case measure => simp [intOf];omega
        ·obtain rfl:q = k:=by omega
         have hcc:=HC2.out
         rw [HNO.out] at hcc
         simp only [Bool.false_eq_true,if_false] at hcc
         have i3:¬ (q:Int) < q:=by omega
         cases jw with
         | true =>
          simp only [Bool.not_true,Bool.false_and,Bool.false_eq_true,if_false] at hcc
          have HNX:=Lib.hid hcc
          clear hcc
          go_wp2_with fail
          go_roundw
          case rel => exact ⟨q + 1,by omega,by go_num,HNX.out,b8⟩
          case measure => simp [intOf];omega
         | false =>
          have hq:∀ W:World,(Op.equalIn 10000 38 (.agg (zkk x0 x1 x2 x3 x4 x5 x6 x7).toArray) (.agg (zkk 0 0 0 0 0 0 0 0).toArray)).run Tryz.prog W = .ok (decide ((⟨x0,x1,x2,x3,x4,x5,x6,x7⟩:Ct) = .zero)) W:=fun W => eq_ct W ⟨x0,x1,x2,x3,x4,x5,x6,x7⟩ .zero
          cases hz:decide ((⟨x0,x1,x2,x3,x4,x5,x6,x7⟩:Ct) = .zero) with
          | false =>
           rw [hz] at hq hcc
           simp only [Bool.not_false,Bool.and_self,if_true,Prod.mk.injEq] at hcc
           obtain ⟨rfl,rfl⟩:=hcc
           clear hz
           go_wp2_with fail
           refine bodyPost_ret (by simp [results,Tryz.results132,go_sem] <;> rfl) rfl ?_
           exact ⟨rfl,BV.trans (b8.mono BV.size)⟩
          | true =>
           rw [hz] at hq hcc
           simp only [Bool.not_true,Bool.and_false,Bool.false_eq_true,if_false] at hcc
           have HNX:=Lib.hid hcc
           clear hz hcc
           go_wp2_with fail
           go_roundw
           case rel => exact ⟨q + 1,by omega,by go_num,HNX.out,b8⟩
           case measure => simp [intOf];omega
    ·have hd:k0.jobs.drop k = []:=List.drop_of_length_le (by rw [HM.out];omega)
     have hcc:=HR.out
     rw [hd,chkDG] at hcc
     cases hcc
     clear HR HH
     go_wp2_with fail
     refine bodyPost_ret (by simp [results,Tryz.results132,go_sem] <;> rfl) rfl ?_
     exact ⟨rfl,b1⟩
end Go.Proofs.YthijbipidbjpfaaGreatDoor
