import Derived.Test.YthijbipidbjpfaaGreatDoorZP00
import Derived.Deep.RegionHeld
import Derived.Test.YthijbipidbjpfaaGreatDoorZP03
set_option linter.unusedSimpArgs false
set_option linter.unusedVariables false
set_option maxRecDepth 100000
set_option maxHeartbeats 8000000
namespace Go.Proofs.YthijbipidbjpfaaGreatDoor
open Go.RowKit Go.Maps
inductive Fct where
 | is (u:Value)
 | has (ψ:Value→World→Prop)
def Fct.at_:Fct→Value→World→Prop
 | .is u,v,_=>v=u
 | .has ψ,v,w=>ψ v w
def Fct.lasts:Fct→Prop
 | .is _=>True
 | .has ψ=>∀ v w w',ψ v w→Below w.heap.size w w'→ψ v w'
theorem Fct.keeps{f:Fct}(h:f.lasts){v:Value}{w w':World}(hv:f.at_ v w)(hb:Below w.heap.size w w'):f.at_ v w':=by
 cases f with
 | is u=>exact hv
 | has ψ=>exact h v w w' hv hb
def depB(o:Oper)(j:Nat):Bool:=o.after.toList.any fun e=>Region.binds .any e && e.on == j
def freeB(ops:Array Oper):Bool:=
 (List.range ops.size).all fun i=>match ops[i]? with
  | none=>true
  | some oi=>(oi.after.toList.all fun e => !Region.binds .any e || decide (e.on<i)) &&
   (List.range ops.size).all fun j=>match ops[j]? with
    | none=>true
    | some oj=>i == j || (match oj.dst with
     | none=>true
     | some d=>(oi.dst != some d) && (!(oi.looksAt ops).contains d || (decide (j<i) && depB oi j) || (decide (i<j) && depB oj i)))
section
variable {P : Program} {ops : Array Oper}
theorem freeB_edge(h:freeB ops=true){i:Nat}{o:Oper}(ho:ops[i]? = some o){e:Edge}(he:e ∈ o.after)(hb:Region.binds .any e=true):e.on<i:=by
 have hi:i<ops.size:=(Array.getElem?_eq_some_iff.1 ho).1;have h1:=List.all_eq_true.1 h i (List.mem_range.2 hi);rw[ho] at h1;simp only[Bool.and_eq_true] at h1;have h2:=List.all_eq_true.1 h1.1 e (by simpa using he);simpa [hb] using h2
theorem freeB_pair(h:freeB ops=true){i j:Nat}{oi oj:Oper}(hi:ops[i]? = some oi)(hj:ops[j]? = some oj)(hne:i≠j){d:Tmp}(hd:oj.dst=some d) :
  oi.dst≠some d∧(d ∈ oi.looksAt ops→(j<i∧depB oi j=true)∨(i<j∧depB oj i=true)):=by
 have hi':i<ops.size:=(Array.getElem?_eq_some_iff.1 hi).1;have hj':j<ops.size:=(Array.getElem?_eq_some_iff.1 hj).1;have h1:=List.all_eq_true.1 h i (List.mem_range.2 hi');rw[hi] at h1;simp only[Bool.and_eq_true] at h1;have h2:=List.all_eq_true.1 h1.2 j (List.mem_range.2 hj');rw[hj] at h2;have hn:(i == j)=false:=beq_eq_false_iff_ne.2 hne;simp only[hn,hd,Bool.false_or,Bool.and_eq_true,bne_iff_ne,Bool.or_eq_true,Bool.not_eq_true',List.contains_eq_mem,decide_eq_true_eq,decide_eq_false_iff_not] at h2;refine⟨h2.1,fun hm => ?_⟩
 rcases h2.2 with (h3 | h3) | h3
 ·exact absurd hm h3
 ·exact .inl h3
 ·exact .inr h3
def dstOf(ops:Array Oper)(i:Nat):Option Tmp:=(ops[i]?).bind (·.dst)
def putL(ops:Array Oper)(a:Act)(vals:Nat→Value)(l:Nat→Bool):Nat→Act
 | 0=>a
 | n+1=>if l n then (putL ops a vals l n).put (dstOf ops n) (vals n) else putL ops a vals l n
theorem actput_size(a:Act)(d:Option Tmp)(v:Value):(a.put d v).tmps.size=a.tmps.size:=by cases d <;> simp[Act.put]
theorem putL_size(a:Act)(vals:Nat→Value)(l:Nat→Bool):∀ n,(putL ops a vals l n).tmps.size=a.tmps.size
 | 0=>rfl
 | n+1=>by
  unfold putL
  split
  ·rw[actput_size,putL_size a vals l n]
  ·exact putL_size a vals l n
theorem actput_other(a:Act){d:Option Tmp}{t:Tmp}(v:Value)(h:d≠some t):(a.put d v).tmps[t]? = a.tmps[t]?:=by
 cases d with
 | none=>rfl
 | some d=>
  have hne:d≠t:=fun e=>h (by rw[e])
  simp[Act.put,Array.getElem?_setIfInBounds_ne hne]
theorem actput_own{a b:Act}(t:Tmp)(v:Value)(h:a.tmps.size=b.tmps.size):(a.put (some t) v).tmps[t]? = (b.put (some t) v).tmps[t]?:=by
 simp[Act.put,Array.getElem?_setIfInBounds,h]
theorem putL_look(a:Act)(vals:Nat→Value)(l l':Nat→Bool)(t:Tmp):∀ n,(∀ j,j<n→dstOf ops j=some t→l j=l' j)→(putL ops a vals l n).tmps[t]? = (putL ops a vals l' n).tmps[t]?
 | 0,_=>rfl
 | n+1,h=>by
  have ih:=putL_look a vals l l' t n (fun j hj=>h j (by omega));unfold putL
  by_cases hd:dstOf ops n=some t
  ·have hl:=h n (by omega) hd
   rw[←hl]
   split
   ·rw[hd];exact actput_own t _ (by rw[putL_size,putL_size])
   ·exact ih
  ·split <;> split
   ·rw[actput_other _ _ hd,actput_other _ _ hd];exact ih
   ·rw[actput_other _ _ hd];exact ih
   ·rw[actput_other _ _ hd];exact ih
   ·exact ih
theorem putL_congr(a:Act){vals vals':Nat→Value}{l l':Nat→Bool}:∀ n,(∀ j,j<n→l j=l' j∧(l j=true→vals j=vals' j))→putL ops a vals l n=putL ops a vals' l' n
 | 0,_=>rfl
 | n+1,h=>by
  have ih:=putL_congr a (vals:=vals) (vals':=vals') (l:=l) (l':=l') n (fun j hj=>h j (by omega));obtain⟨h1,h2⟩:=h n (by omega);unfold putL;rw[←h1,ih]
  by_cases hl:l n=true
  ·rw[if_pos hl,if_pos hl,h2 hl]
  ·rw[if_neg hl,if_neg hl]
def upd{α:Type}(f:Nat→α)(i:Nat)(v:α):Nat→α:=fun j=>if j=i then v else f j
theorem putL_put(hf:freeB ops=true)(a:Act)(vals:Nat→Value)(l:Nat→Bool)(i:Nat)(v:Value)(hl:l i=false):∀ n,i<n→n≤ops.size →
  (putL ops a vals l n).put (dstOf ops i) v=putL ops a (upd vals i v) (upd l i true) n
 | 0,h,_=>absurd h (by omega)
 | n+1,h,hn=>by
  by_cases hin:i=n
  ·subst hin
   unfold putL;rw[if_neg (by simp[hl]),if_pos (by simp[upd])];rw[putL_congr (ops:=ops) a (vals:=vals) (vals':=upd vals i v) (l:=l) (l':=upd l i true) i (fun j hj=>⟨by simp[upd];omega,fun _=>by simp[upd];omega⟩)];simp[upd]
  ·have ih:=putL_put hf a vals l i v hl n (by omega) (by omega)
   have hni:n≠i:=Ne.symm hin;unfold putL;rw[show upd l i true n=l n from by simp[upd,hni],show upd vals i v n=vals n from by simp[upd,hni]]
   split
   ·rw[←ih,Act.put_comm]
    intro d hd he;unfold dstOf at hd he;obtain⟨on,hon,hdn⟩:=Option.bind_eq_some_iff.1 hd;obtain⟨oi,hoi,hdi⟩:=Option.bind_eq_some_iff.1 he;exact(freeB_pair hf hoi hon hin hdn).1 hdi
   ·exact ih
theorem putL_to(a:Act)(vals:Nat→Value)(i:Nat):∀ n,i≤n→putL ops a vals (fun j=>decide (j<i)) n=putL ops a vals (fun _=>true) i
 | 0,h=>by
  have h0:i=0:=by omega
  subst h0;rfl
 | n+1,h=>by
  by_cases hin:i=n+1
  ·subst hin
   exact putL_congr a _ (fun j hj=>⟨by simpa using hj,fun _=>rfl⟩)
  ·show (if decide (n<i)=true then _ else putL ops a vals (fun j=>decide (j<i)) n)=_
   rw[if_neg (by simp;omega)];exact putL_to a vals i n (by omega)
def cntL(l:Nat→Bool):Nat→Nat
 | 0=>0
 | n+1=>cntL l n+if l n then 0 else 1
theorem cntL_zero{l:Nat→Bool}:∀ {n},cntL l n=0→∀ j,j<n→l j=true
 | 0,_,j,hj=>absurd hj (by omega)
 | n+1,h,j,hj=>by
  unfold cntL at h
  by_cases hl:l n=true
  ·rcases Nat.lt_or_ge j n with h1 | h1
   ·exact cntL_zero (n:=n) (by omega) j h1
   ·obtain rfl:j=n:=by omega
    exact hl
  ·rw[if_neg hl] at h;omega
theorem cntL_congr{l l':Nat→Bool}:∀ n,(∀ j,j<n→l j=l' j)→cntL l n=cntL l' n
 | 0,_=>rfl
 | n+1,h=>by unfold cntL;rw[cntL_congr n (fun j hj=>h j (by omega)),h n (by omega)]
theorem cntL_upd{l:Nat→Bool}{i:Nat}(hl:l i=false):∀ n,i<n→cntL (upd l i true) n+1=cntL l n
 | 0,h=>absurd h (by omega)
 | n+1,h=>by
  unfold cntL
  by_cases hin:i=n
  ·subst hin
   rw[cntL_congr (l:=upd l i true) (l':=l) i (fun j hj=>by simp[upd];omega)];simp[upd,hl]
  ·have:=cntL_upd hl n (by omega)
   have hni:n≠i:=Ne.symm hin;rw[show upd l i true n=l n from by simp[upd,hni]];omega
theorem cntL_none:∀ n,cntL (fun _=>false) n=n
 | 0=>rfl
 | n+1=>by unfold cntL;rw[cntL_none n];simp
variable {W0 : World} {Q : Exit → Act → World → Prop}
def Step1(P:Program)(ops:Array Oper)(W0:World)(o:Oper)(f:Fct)(vs:List Value)(gs:List Fct)(a:Act):Prop:=
 ∀ w,Below W0.heap.size W0 w→(∀ (j:Nat) (v:Value) (g:Fct),depB o j=true→vs[j]? = some v→gs[j]? = some g→g.at_ v w) →
  ∀ (K:Act→World→Prop) (Q':Exit→Act→World→Prop),Shut (∀ v a' w',a'=a.put o.dst v→Below w.heap.size w w'→f.at_ v w'→K a' w') →
   if Region.wanted o (yielded ops a.tmps)=true then Oper.wp P o a w K Q' else K (a.put o.dst undef) w
def Chain(P:Program)(ops:Array Oper)(W0:World)(Q:Exit→Act→World→Prop):List Oper→List Fct→List Value→List Fct→Act→Prop
 | [],[],vs,gs,a=>∀ w,Below W0.heap.size W0 w→(∀ (j:Nat) (v:Value) (g:Fct),vs[j]? = some v→gs[j]? = some g→g.at_ v w)→Q .normal a w
 | o::os,.is u::fs,vs,gs,a=>Step1 P ops W0 o (.is u) vs gs a∧Chain P ops W0 Q os fs (vs++[u]) (gs++[.is u]) (a.put o.dst u)
 | o::os,.has ψ::fs,vs,gs,a=>Step1 P ops W0 o (.has ψ) vs gs a∧∀ v,Chain P ops W0 Q os fs (vs++[v]) (gs++[.has ψ]) (a.put o.dst v)
 | _,_,_,_,_=>False
theorem chain_len:∀ (os:List Oper) (fs:List Fct) (vs:List Value) (gs:List Fct) (a:Act),Chain P ops W0 Q os fs vs gs a→os.length=fs.length
 | [],[],_,_,_,_=>rfl
 | [],_::_,_,_,_,h=>by cases h
 | _::_,[],_,_,_,h=>by cases h
 | _::os,.is u::fs,vs,gs,a,h=>by simp[chain_len os fs _ _ _ h.2]
 | _::os,.has ψ::fs,vs,gs,a,h=>by simp[chain_len os fs _ _ _ (h.2 undef)]
theorem chain_cons{o:Oper}{os:List Oper}{f:Fct}{fs:List Fct}{vs:List Value}{gs:List Fct}{a:Act}(h:Chain P ops W0 Q (o::os) (f::fs) vs gs a) :
  Step1 P ops W0 o f vs gs a∧∀ v,(∀ u,f=.is u→v=u)→Chain P ops W0 Q os fs (vs++[v]) (gs++[f]) (a.put o.dst v):=by
 cases f with
 | is u=>exact⟨h.1,fun v hv=>by obtain rfl:=hv u rfl;exact h.2⟩
 | has ψ=>exact⟨h.1,fun v _=>h.2 v⟩
theorem chain_to{Fs:List Fct}{a0:Act}(h:Chain P ops W0 Q ops.toList Fs [] [] a0)(vals:Nat→Value)(hv:∀ j u,Fs[j]? = some (.is u)→vals j=u) :
  ∀ i,i≤ops.size→Chain P ops W0 Q (ops.toList.drop i) (Fs.drop i) ((List.range i).map vals) (Fs.take i) (putL ops a0 vals (fun _=>true) i)
 | 0,_=>by simpa [putL] using h
 | i+1,hi=>by
  have ih:=chain_to h vals hv i (by omega);have hlen:ops.size=Fs.length:=by simpa using chain_len _ _ _ _ _ h
  rw[List.drop_eq_getElem_cons (l:=ops.toList) (i:=i) (by simp;omega),List.drop_eq_getElem_cons (l:=Fs) (i:=i) (by omega)] at ih;have h2:=(chain_cons ih).2 (vals i) (fun u hu=>hv i u (by rw[List.getElem?_eq_getElem (by omega),hu]));rw[List.range_succ,List.map_append,List.take_succ_eq_append_getElem (by omega)]
  have hd:dstOf ops i=(ops.toList[i]'(by simp;omega)).dst:=by
   unfold dstOf;rw[Array.getElem?_eq_getElem (by omega)];simp
  unfold putL;rw[if_pos rfl,hd];exact h2
theorem look_same{a b:Act}{o:Oper}(hs:∀ cs c,o.op≠.select cs c)(h:∀ t ∈ o.looksAt ops,a.tmps[t]? = b.tmps[t]?) :
  execOp a.eval o=execOp b.eval o∧Region.wanted o (yielded ops a.tmps)=Region.wanted o (yielded ops b.tmps):=by
 constructor
 ·refine execOp_congr o hs fun x hx => ?_
  cases x with
  | tmp t=>
   have:=h t (List.mem_append_left _ (List.mem_filterMap.2 ⟨.tmp t,by simpa using hx,rfl⟩));simp[Act.eval,this]
  | _=>rfl
 ·unfold Region.wanted
  cases hg:o.guard with
  | none=>rfl
  | some gw=>
   obtain⟨g,want⟩:=gw
   have hy:yielded ops a.tmps g=yielded ops b.tmps g:=by
    unfold yielded
    cases ht:(ops[g]?).bind (·.dst) with
    | none=>rfl
    | some t=>
     have:=h t (by simp[Oper.looksAt,hg,ht]);simp[this]
   simp only[hy]
theorem actput_same{a b:Act}(h:a.tmps.size=b.tmps.size)(d:Option Tmp)(u v:Value)(e:b.put d u=b.put d v):a.put d u=a.put d v:=by
 cases d with
 | none=>rfl
 | some d=>
  simp only[Act.put,Act.mk.injEq,and_true] at e ⊢
  by_cases hd:d<b.tmps.size
  ·have:=congrArg (·[d]?) e
   simp[hd] at this;rw[this]
  ·rw[Array.setIfInBounds_eq_of_size_le (by rw[h];exact Nat.le_of_not_lt hd),Array.setIfInBounds_eq_of_size_le (by rw[h];exact Nat.le_of_not_lt hd)]
theorem wp_swap{o:Oper}{a b:Act}{w:World}{G:Value→World→Prop}(he:execOp a.eval o=execOp b.eval o)(hz:a.tmps.size=b.tmps.size)
  (h:Oper.wp P o b w (fun a' w'=>∃ v,a'=b.put o.dst v∧G v w') (fun _ _ _=>False)) :
  Oper.wp P o a w (fun a' w'=>∃ v,a'=a.put o.dst v∧G v w') Q:=by
 unfold Oper.wp at *;rw[he]
 generalize (execOp b.eval o).run P w=r at *
 have key:∀ u w',(∃ v,b.put o.dst u=b.put o.dst v∧G v w')→∃ v,a.put o.dst u=a.put o.dst v∧G v w':=fun u w' ⟨v,e,g⟩=>⟨v,actput_same hz _ _ _ e,g⟩
 cases r with
 | ok n w'=>
  cases n <;> simp only[Oper.upon] at h ⊢
  case value u=>exact key _ _ h
  case skip=>exact key _ _ h
  case defer d=>
   obtain⟨v,e,_⟩:=h;have:=congrArg (fun x:Act=>x.defers.length) e
   cases hd:o.dst <;> simp[Act.put,hd] at this
  case enter f args=>
   refine Calls.mono h fun e w'' hh => ?_
   cases e with
   | returned u=>exact key _ _ hh
   | panicked c=>exact hh.elim
   | outgrown=>exact absurd hh (by simp[LetsOut])
  case row row args=>exact Rows.mono h fun u w'' hh=>key _ _ hh
 | halt x w'=>
  cases x <;> simp only[Oper.upon] at h ⊢
theorem chain_any(hsel:Region.noSelect ops=true)(hf:freeB ops=true){Fs:List Fct}(hL:∀ f ∈ Fs,f.lasts){a0:Act}(h:Chain P ops W0 Q ops.toList Fs [] [] a0) :
  ∀ (fuel:Nat) (listed:Array Bool) (vals:Nat→Value) (w:World),listed.size=ops.size→cntL (fun j=>listed.getD j false) ops.size≤fuel →
   (∀ j u,Fs[j]? = some (.is u)→vals j=u)→(∀ j o,ops[j]? = some o→listed.getD j false=true→∀ e ∈ o.after,Region.binds .any e=true→listed.getD e.on false=true) →
   Below W0.heap.size W0 w→(∀ j g,listed.getD j false=true→Fs[j]? = some g→g.at_ (vals j) w) →
   wpAny P .any ops Q fuel listed (putL ops a0 vals (fun j=>listed.getD j false) ops.size) w:=by
 have hlen:ops.size=Fs.length:=by simpa using chain_len _ _ _ _ _ h
 have fin:∀ (listed:Array Bool) (vals:Nat→Value) (w:World),(∀ j,j<ops.size→listed.getD j false=true)→(∀ j u,Fs[j]? = some (.is u)→vals j=u)→Below W0.heap.size W0 w→(∀ j g,listed.getD j false=true→Fs[j]? = some g→g.at_ (vals j) w) →
   Q .normal (putL ops a0 vals (fun j=>listed.getD j false) ops.size) w:=by
  intro listed vals w hall hv hb hg;have hc:=chain_to h vals hv ops.size (Nat.le_refl _);rw[List.drop_of_length_le (by simp),List.drop_of_length_le (by omega),List.take_of_length_le (by omega)] at hc;rw[putL_congr (ops:=ops) a0 (vals:=vals) (vals':=vals) (l:=fun j=>listed.getD j false) (l':=fun _=>true) ops.size (fun j hj=>⟨hall j hj,fun _=>rfl⟩)]
  refine hc w hb fun j v g hj hgj => ?_
  have hjl:j<ops.size:=by have:=(List.getElem?_eq_some_iff.1 hj).1;simpa using this
  rw[List.getElem?_map,List.getElem?_range hjl] at hj;simp at hj;subst hj;exact hg j g (hall j hjl) hgj
 intro fuel
 induction fuel with
 | zero=>
  intro listed vals w hs hcnt hv hdown hb hg;have hall:=cntL_zero (Nat.le_zero.1 hcnt);refine⟨?_,fin listed vals w hall hv hb hg⟩
  refine List.eq_nil_iff_forall_not_mem.2 fun i hi => ?_
  obtain⟨h0,o,ho,_⟩:=mem_ready.1 hi;have hi':i<ops.size:=(Array.getElem?_eq_some_iff.1 ho).1;have:=hall i hi';simp[show i<listed.size by omega] at h0 this;rw[h0] at this
  cases this
 | succ fuel ih=>
  intro listed vals w hs hcnt hv hdown hb hg;refine⟨fun hr => ?_,fun i hi => ?_⟩
  ·refine fin listed vals w ?_ hv hb hg
   intro j
   induction j using Nat.strongRecOn with
   | _ j ihj=>
    intro hj
    by_cases hl:listed.getD j false=true
    ·exact hl
    ·have hm:j ∈ Region.ready .any ops listed:=by
      refine mem_ready.2 ⟨by simp[show j<listed.size by omega] at hl ⊢;exact hl,ops[j],Array.getElem?_eq_getElem hj,fun e he hbn => ?_⟩;have he':=freeB_edge hf (Array.getElem?_eq_getElem hj) he hbn;exact ihj e.on he' (by omega)
     rw[hr] at hm
     cases hm
  ·obtain⟨h0,o,ho,hall⟩:=mem_ready.1 hi
   have hi':i<ops.size:=(Array.getElem?_eq_some_iff.1 ho).1;have hun:listed.getD i false=false:=by simp[show i<listed.size by omega] at h0 ⊢;exact h0
   have hc:=chain_to h vals hv i (by omega);rw[List.drop_eq_getElem_cons (l:=ops.toList) (i:=i) (by simp;omega),List.drop_eq_getElem_cons (l:=Fs) (i:=i) (by omega)] at hc;have hst:=(chain_cons hc).1
   have hoi:ops.toList[i]'(by simp;omega)=o:=by
    rw[Array.getElem?_eq_getElem hi'] at ho;simpa using ho
   rw[hoi] at hst;have hfi:Fs[i]? = some (Fs[i]'(by omega)):=List.getElem?_eq_getElem (by omega)
   have hdep:∀ j,depB o j=true→listed.getD j false=true:=by
    intro j hj;unfold depB at hj;obtain⟨e,he,hbe⟩:=List.any_eq_true.1 hj;simp only[Bool.and_eq_true,beq_iff_eq] at hbe;have:=hall e (by simpa using he) hbe.1;rw[hbe.2] at this;exact this
   have hsame:∀ t ∈ o.looksAt ops,(putL ops a0 vals (fun j=>listed.getD j false) ops.size).tmps[t]? = (putL ops a0 vals (fun _=>true) i).tmps[t]?:=by
    intro t ht;rw[←putL_to a0 vals i ops.size (by omega)]
    refine putL_look a0 vals _ _ t ops.size fun j hj hd => ?_
    unfold dstOf at hd;obtain⟨oj,hoj,hdj⟩:=Option.bind_eq_some_iff.1 hd
    by_cases hij:i=j
    ·subst hij
     simp[hun]
    ·rcases (freeB_pair hf ho hoj hij hdj).2 ht with ⟨h1,h2⟩ | ⟨h1,h2⟩
     ·rw[hdep j h2,decide_eq_true h1]
     ·rw[decide_eq_false (by omega)]
      by_cases hlj:listed.getD j false=true
      ·exfalso
       unfold depB at h2;obtain⟨e,he,hbe⟩:=List.any_eq_true.1 h2;simp only[Bool.and_eq_true,beq_iff_eq] at hbe;have:=hdown j oj hoj hlj e (by simpa using he) hbe.1;rw[hbe.2,hun] at this
       cases this
      ·simpa using hlj
   obtain⟨hex,hwa⟩:=look_same (Region.noSelect_spec hsel i o · · ho) hsame;have hsz:(putL ops a0 vals (fun j=>listed.getD j false) ops.size).tmps.size=(putL ops a0 vals (fun _=>true) i).tmps.size:=by rw[putL_size,putL_size]
   have hdi:dstOf ops i=o.dst:=by unfold dstOf;rw[ho];rfl
   -- behind the operation
   have next:∀ v w',Below w.heap.size w w'→(Fs[i]'(by omega)).at_ v w' →
     wpAny P .any ops Q fuel (listed.setIfInBounds i true) ((putL ops a0 vals (fun j=>listed.getD j false) ops.size).put o.dst v) w':=by
    intro v w' hbw hfv;rw[←hdi,putL_put hf a0 vals _ i v hun ops.size hi' (Nat.le_refl _)]
    have hl:(fun j=>(listed.setIfInBounds i true).getD j false)=upd (fun j=>listed.getD j false) i true:=by
     funext j
     unfold upd
     by_cases hji:j=i
     ·subst hji;simp[show j<listed.size by omega]
     ·rw[if_neg hji,getD_set_ne false (Ne.symm hji)]
    rw[←hl];have hbW:=zbt hb hbw;refine ih (listed.setIfInBounds i true) (upd vals i v) w' (by simpa using hs) ?_ ?_ ?_ hbW ?_
    ·rw[hl]
     have:=cntL_upd (l:=fun j=>listed.getD j false) hun ops.size hi';omega
    ·intro j u hju
     unfold upd
     by_cases hji:j=i
     ·subst hji
      rw[if_pos rfl];rw[hfi] at hju;injection hju with hju
      rw[hju] at hfv;exact hfv
     ·rw[if_neg hji];exact hv j u hju
    ·intro j oj hoj hlj e he hbe
     by_cases hji:j=i
     ·subst hji
      rw[ho] at hoj;injection hoj with hoj
      subst hoj;exact getD_set_true (hall e he hbe)
     ·rw[getD_set_ne false (Ne.symm hji)] at hlj
      exact getD_set_true (hdown j oj hoj hlj e he hbe)
    ·intro j g hlj hgj
     unfold upd
     by_cases hji:j=i
     ·subst hji
      rw[if_pos rfl];rw[hfi] at hgj;injection hgj with hgj
      rw[←hgj];exact hfv
     ·rw[if_neg hji]
      rw[getD_set_ne false (Ne.symm hji)] at hlj;exact Fct.keeps (hL g (List.mem_of_getElem? hgj)) (hg j g hlj hgj) hbw
   have hrun:=hst w hb (fun j v g hj hvj hgj=>by
     have hji:j<i:=by have:=(List.getElem?_eq_some_iff.1 hvj).1;simpa using this
     rw[List.getElem?_map,List.getElem?_range hji] at hvj
     simp at hvj
     subst hvj
     rw[List.getElem?_take_of_lt hji] at hgj
     exact hg j g (hdep j hj) hgj)
    (fun a' w'=>∃ v,a'=(putL ops a0 vals (fun _=>true) i).put o.dst v∧(Below w.heap.size w w'∧(Fs[i]'(by omega)).at_ v w')) (fun _ _ _=>False)
    (show Shut _ from fun v a' w' e h1 h2=>⟨v,e,h1,h2⟩)
   refine wpOp_step ho fun K' hK => ?_
   rw[hwa]
   split
   ·rename_i hw
    rw[if_pos hw] at hrun;refine Oper.wp_mono (fun a' w' ⟨v,e,h1,h2⟩ => ?_) (wp_swap (Q:=Q) hex hsz hrun);rw[e];exact hK _ _ (next v w' h1 h2)
   ·rename_i hw
    rw[if_neg hw] at hrun;obtain⟨v,e,h1,h2⟩:=hrun;rw[actput_same hsz _ _ _ e];exact hK _ _ (next v w h1 h2)
theorem rep_false(n j:Nat):(Array.replicate n false).getD j false=false:=by
 rw[Array.getD_eq_getD_getElem?,Array.getElem?_replicate]
 split <;> rfl
theorem wp_region_chain{id:Nat}{a:Act}{w:World}(Fs:List Fct)(hm:P.follows .mixedOrders=true)(hsel:Region.noSelect ops=true)(hf:freeB ops=true)(hL:∀ f ∈ Fs,f.lasts)
  (h0:∀ W0,Below w.heap.size w W0→W0.heap.size=w.heap.size→Chain P ops W0 Q ops.toList Fs [] [] a):(Code.region id ops true).wp P Q a w:=by
 refine wp_region_any hm ?_;have h:=h0 w.drew (Below.refl _ _).drew rfl;have:=chain_any hsel hf hL h ops.size (Array.replicate ops.size false) (fun j=>match Fs[j]? with | some (.is u)=>u | _=>undef) w.drew (by simp)
  (by
   rw[cntL_congr (l:=fun j=>(Array.replicate ops.size false).getD j false) (l':=fun _=>false) ops.size (fun j _=>rep_false _ _)]
   rw[cntL_none];exact Nat.le_refl _)
  (fun j u hj=>by rw[hj]) (fun j o _ hj=>by rw[rep_false] at hj;cases hj) (Below.refl _ _) (fun j g hj=>by rw[rep_false] at hj;cases hj)
 rw[show putL ops a (fun j=>match Fs[j]? with | some (.is u)=>u | _=>undef) (fun j=>(Array.replicate ops.size false).getD j false) ops.size=a from ?_] at this
 ·exact this
 ·have:∀ n,putL ops a (fun j=>match Fs[j]? with | some (.is u)=>u | _=>undef) (fun j=>(Array.replicate ops.size false).getD j false) n=a:=by
   intro n
   induction n with
   | zero=>rfl
   | succ n ih=>unfold putL;rw[if_neg (by rw[rep_false];simp),ih]
  exact this _
theorem chain_is{o:Oper}{os:List Oper}{u:Value}{fs:List Fct}{vs:List Value}{gs:List Fct}{a:Act}(h1:Step1 P ops W0 o (.is u) vs gs a)(h2:Chain P ops W0 Q os fs (vs++[u]) (gs++[.is u]) (a.put o.dst u)):Chain P ops W0 Q (o::os) (.is u::fs) vs gs a:=⟨h1,h2⟩
theorem chain_has{o:Oper}{os:List Oper}{ψ:Value→World→Prop}{fs:List Fct}{vs:List Value}{gs:List Fct}{a:Act}(h1:Step1 P ops W0 o (.has ψ) vs gs a)(h2:∀ v,Chain P ops W0 Q os fs (vs++[v]) (gs++[.has ψ]) (a.put o.dst v)):Chain P ops W0 Q (o::os) (.has ψ::fs) vs gs a:=⟨h1,h2⟩
theorem step_take{o:Oper}{u:Value}{vs:List Value}{gs:List Fct}{a:Act}(hw:Region.wanted o (yielded ops a.tmps)=true)
  (h:∀ w,Below W0.heap.size W0 w→(∀ (j:Nat) (v:Value) (g:Fct),depB o j=true→vs[j]? = some v→gs[j]? = some g→g.at_ v w)→(execOp a.eval o).run P w=.ok (.value u) w):Step1 P ops W0 o (.is u) vs gs a:=by
 intro w hb hd K Q' hK;rw[if_pos hw];unfold Oper.wp;rw[h w hb hd];exact hK.out _ _ _ rfl (Below.refl _ _) rfl
theorem step_un{o:Oper}{vs:List Value}{gs:List Fct}{a:Act}(hw:Region.wanted o (yielded ops a.tmps)=false):Step1 P ops W0 o (.is undef) vs gs a:=by
 intro w hb hd K Q' hK;rw[if_neg (by rw[hw];simp)];exact hK.out _ _ _ rfl (Below.refl _ _) rfl
theorem lasts_nil:∀ f ∈ ([]:List Fct),f.lasts:=fun _ h=>by cases h
theorem lasts_is{u:Value}{fs:List Fct}(h:∀ f ∈ fs,f.lasts):∀ f ∈ (Fct.is u::fs),f.lasts:=fun f hf=>by
 rcases List.mem_cons.1 hf with rfl | hf
 ·trivial
 ·exact h f hf
theorem lasts_has{ψ:Value→World→Prop}{fs:List Fct}(h1:(Fct.has ψ).lasts)(h:∀ f ∈ fs,f.lasts):∀ f ∈ (Fct.has ψ::fs),f.lasts:=fun f hf=>by
 rcases List.mem_cons.1 hf with rfl | hf
 ·exact h1
 ·exact h f hf
theorem chain_end{vs:List Value}{gs:List Fct}{a:Act}(h:∀ w,Below W0.heap.size W0 w→(∀ (j:Nat) (v:Value) (g:Fct),vs[j]? = some v→gs[j]? = some g→g.at_ v w)→Q .normal a w):Chain P ops W0 Q [] [] vs gs a:=h
end
def LitS(t:TypeId)(n:Nat)(xs:List Value)(v:Value)(w:World):Prop:=∃ g,v=.slice (some ⟨g,0,none⟩) n n∧Blk w g t xs.toArray
theorem LitS.lasts(t:TypeId)(n:Nat)(xs:List Value):(Fct.has (LitS t n xs)).lasts:=fun _ _ _ ⟨g,e,h⟩ hb=>⟨g,e,h.below_ hb h.lt⟩
end Go.Proofs.YthijbipidbjpfaaGreatDoor
