import Derived.Test.YthijbipidbjpfaaGreatDoorZP04
import Derived.OrdersIn
import Derived.RangeFuncCalls
import Derived.Test.YthijbipidbjpfaaGreatDoorZP03
set_option linter.unusedSimpArgs false
set_option linter.unusedVariables false
set_option maxRecDepth 100000
set_option maxHeartbeats 8000000
namespace Go.Proofs.YthijbipidbjpfaaGreatDoor
open Go.RowKit Go.Maps
inductive Fk where
 | is (u:Value)
 | kn (u:Value)
 | has (ψ:Value→Nat→Nat→World→Prop)
 | fn (js:List Nat) (F:List Value→Value)
 | late
def Fk.at_:Fk→Value→Nat→Nat→World→Prop
 | .is u,v,_,_,_=>v=u
 | .kn u,v,_,_,_=>v=u
 | .has ψ,v,lo,hi,w=>ψ v lo hi w
 | .fn _ _,_,_,_,_=>True
 | .late,_,_,_,_=>True
def Fk.lasts:Fk→Prop
 | .has ψ=>∀ v lo hi w w',ψ v lo hi w→Below w.heap.size w w'→ψ v lo hi w'
 | _=>True
def Fk.kind:Fk→Nat
 | .is _=>0
 | .kn _=>1
 | .has _=>2
 | .fn _ _=>0
 | .late=>3
def Fk.js:Fk→List Nat
 | .fn js _=>js
 | _=>[]
def Fk.val:Fk→(Nat→Value)→Value→Value
 | .is u,_,_=>u
 | .kn u,_,_=>u
 | .has _,_,v=>v
 | .fn js F,vals,_=>F (js.map vals)
 | .late,_,_=>undef
theorem Fk.keeps{f:Fk}(h:f.lasts){v:Value}{lo hi:Nat}{w w':World}(hv:f.at_ v lo hi w)(hb:Below w.heap.size w w'):f.at_ v lo hi w':=by
 cases f with
 | has ψ=>exact h v lo hi w w' hv hb
 | _=>exact hv
def ancGo(ops:Array Oper):Nat→List Bool→List Bool
 | 0,m=>m
 | i+1,m=>ancGo ops i (if m.getD i false then (List.range ops.size).map (fun j=>m.getD j false || ((ops[i]?).map (depB · j)).getD false) else m)
def ancs(ops:Array Oper)(s:Nat):List Bool:=match ops[s]? with
 | none=>[]
 | some o=>ancGo ops s ((List.range ops.size).map (depB o))
def lateB(ops:Array Oper)(ks:List Nat):Bool:=
 (List.range ops.size).all fun s=>ks.getD s 0 != 3 || match ops[s]? with
  | none=>true
  | some o=>o.dst.isNone && o.guard.isNone && (List.range ops.size).all fun j=>
   (ks.getD j 0 == 0 || ks.getD j 0 == 3 || (ancs ops s).getD j false) &&
   (decide (j≤s) || match ops[j]? with
    | none=>true
    | some oj=>match oj.dst with
     | none=>true
     | some d => !(o.looksAt ops).contains d)
section
variable {P : Program} {ops : Array Oper}
theorem depB_edge{o:Oper}{k:Nat}(h:depB o k=true):∃ e ∈ o.after,Region.binds .any e=true∧e.on=k:=by
 unfold depB at h;obtain⟨e,he,hbe⟩:=List.any_eq_true.1 h;simp only[Bool.and_eq_true,beq_iff_eq] at hbe;exact⟨e,by simpa using he,hbe.1,hbe.2⟩
theorem getD_map_range{n:Nat}{f:Nat→Bool}{j:Nat}(h:((List.range n).map f).getD j false=true):f j=true:=by
 rw[List.getD_eq_getElem?_getD,List.getElem?_map] at h
 by_cases hj:j<n
 ·rw[List.getElem?_range hj] at h;simpa using h
 ·rw[List.getElem?_eq_none (by simpa using hj)] at h;simp at h
theorem ancGo_listed{lst:Nat→Bool}(hdown:∀ j o,ops[j]? = some o→lst j=true→∀ e ∈ o.after,Region.binds .any e=true→lst e.on=true) :
  ∀ i m,(∀ j,m.getD j false=true→lst j=true)→∀ j,(ancGo ops i m).getD j false=true→lst j=true
 | 0,m,h,j,hj=>h j hj
 | i+1,m,h,j,hj=>by
  unfold ancGo at hj;refine ancGo_listed hdown i _ (fun k hk => ?_) j hj
  split at hk
  ·rename_i hmi
   have:=getD_map_range hk
   rcases Bool.or_eq_true_iff.1 this with h1 | h1
   ·exact h k h1
   ·cases ho:ops[i]? with
    | none=>rw[ho] at h1;simp at h1
    | some o=>
     rw[ho] at h1;simp at h1;obtain⟨e,he,hb,rfl⟩:=depB_edge h1;exact hdown i o ho (h i hmi) e he hb
  ·exact h k hk
theorem ancs_listed{lst:Nat→Bool}(hdown:∀ j o,ops[j]? = some o→lst j=true→∀ e ∈ o.after,Region.binds .any e=true→lst e.on=true){s:Nat}{o:Oper}(ho:ops[s]? = some o)
  (hs:∀ k,depB o k=true→lst k=true) {j:Nat} (hj:(ancs ops s).getD j false=true):lst j=true:=by
 unfold ancs at hj;rw[ho] at hj;exact ancGo_listed hdown s _ (fun k hk=>hs k (getD_map_range hk)) j hj
theorem lateB_spec{ks:List Nat}(h:lateB ops ks=true){s:Nat}{o:Oper}(ho:ops[s]? = some o)(hk:ks.getD s 0=3) :
  o.dst=none∧o.guard=none∧∀ j,j<ops.size→(ks.getD j 0=0∨ks.getD j 0=3∨(ancs ops s).getD j false=true)∧(j≤s ∨ ∀ oj d,ops[j]? = some oj→oj.dst=some d→d ∉ o.looksAt ops):=by
 have hs:s<ops.size:=(Array.getElem?_eq_some_iff.1 ho).1;have h1:=List.all_eq_true.1 h s (List.mem_range.2 hs);rw[hk,ho] at h1;simp only[bne_self_eq_false,Bool.false_or,Bool.and_eq_true,Option.isNone_iff_eq_none] at h1;refine⟨h1.1.1,h1.1.2,fun j hj => ?_⟩;have h2:=List.all_eq_true.1 h1.2 j (List.mem_range.2 hj);simp only[Bool.and_eq_true,Bool.or_eq_true,beq_iff_eq,decide_eq_true_eq] at h2;refine⟨?_,?_⟩
 ·rcases h2.1 with (h3 | h3) | h3
  ·exact .inl h3
  ·exact .inr (.inl h3)
  ·exact .inr (.inr h3)
 ·rcases h2.2 with h3 | h3
  ·exact .inl h3
  ·refine .inr fun oj d hoj hd hm => ?_
   rw[hoj] at h3;simp only[hd] at h3;simp[List.contains_eq_mem,hm] at h3
variable {W0 : World} {Q : Exit → Act → World → Prop}
def ancB(ops:Array Oper)(i j:Nat):Bool:=(ancs ops i).getD j false
def LateAny(P:Program)(ops:Array Oper)(Q:Exit→Act→World→Prop):Nat→List Nat→Act→World→Prop
 | 0,_,a,w=>Q .normal a w
 | k+1,l,a,w=>∀ s ∈ l,(∀ s' ∈ l,ancB ops s s'=false)→∃ o,ops[s]? = some o∧Oper.wp P o a w (fun a' w'=>a'=a∧LateAny P ops Q k (l.erase s) a w') (fun _ _ _=>False)
def Known(ops:Array Oper)(i:Nat)(vs:List Value)(gs:List Fk)(w:World):Prop:=
 ∀ (j:Nat) (v:Value) (g:Fk),ancB ops i j=true→vs[j]? = some v→gs[j]? = some g→∃ lo hi,g.at_ v lo hi w
def Stp2(P:Program)(ops:Array Oper)(W0:World)(i:Nat)(o:Oper)(f:Fk)(vs:List Value)(gs:List Fk)(a:Act):Prop:=
 ∀ w,Below W0.heap.size W0 w→Known ops i vs gs w →
  ∀ (K:Act→World→Prop) (Q':Exit→Act→World→Prop),Shut (∀ v a' w',a'=a.put o.dst v→Below w.heap.size w w'→f.at_ v w.heap.size w'.heap.size w'→K a' w') →
   if Region.wanted o (yielded ops a.tmps)=true then Oper.wp P o a w K Q' else K (a.put o.dst undef) w
def StpP(P:Program)(ops:Array Oper)(i:Nat)(o:Oper)(u:Value)(vs:List Value)(gs:List Fk)(a:Act):Prop:=
 (Region.wanted o (yielded ops a.tmps)=true∧((∃ w,Known ops i vs gs w)→∀ w,(execOp a.eval o).run P w=.ok (.value u) w))∨(Region.wanted o (yielded ops a.tmps)=false∧u=undef)
def Ranges(W0:World)(gs:List Fk)(lo hi:Nat→Nat)(w:World):Prop:=
 (∀ (i j:Nat) ψ φ,gs[i]? = some (.has ψ)→gs[j]? = some (.has φ)→i≠j→hi i≤lo j∨hi j≤lo i)∧∀ (i:Nat) ψ,gs[i]? = some (.has ψ)→W0.heap.size≤lo i∧lo i≤hi i∧hi i≤w.heap.size
def Chain2(P:Program)(ops:Array Oper)(W0:World)(Q:Exit→Act→World→Prop)(L:List Nat):Nat→List Oper→List Fk→List Value→List Fk→Act→Prop
 | _,[],[],vs,gs,a=>∀ w lo hi,Below W0.heap.size W0 w→(∀ (j:Nat) (v:Value) (g:Fk),vs[j]? = some v→gs[j]? = some g→g.at_ v (lo j) (hi j) w)→Ranges W0 gs lo hi w→LateAny P ops Q L.length L a w
 | i,o::os,.is u::fs,vs,gs,a=>StpP P ops i o u vs gs a∧Chain2 P ops W0 Q L (i+1) os fs (vs++[u]) (gs++[.is u]) (a.put o.dst u)
 | i,o::os,.kn u::fs,vs,gs,a=>Stp2 P ops W0 i o (.kn u) vs gs a∧Chain2 P ops W0 Q L (i+1) os fs (vs++[u]) (gs++[.kn u]) (a.put o.dst u)
 | i,o::os,.has ψ::fs,vs,gs,a=>Stp2 P ops W0 i o (.has ψ) vs gs a∧∀ v,Chain2 P ops W0 Q L (i+1) os fs (vs++[v]) (gs++[.has ψ]) (a.put o.dst v)
 | i,o::os,.fn js F::fs,vs,gs,a=>StpP P ops i o (F (js.map fun j=>vs.getD j undef)) vs gs a∧Chain2 P ops W0 Q L (i+1) os fs (vs++[F (js.map fun j=>vs.getD j undef)]) (gs++[.fn js F]) (a.put o.dst (F (js.map fun j=>vs.getD j undef)))
 | i,_::os,.late::fs,vs,gs,a=>Chain2 P ops W0 Q L (i+1) os fs (vs++[undef]) (gs++[.late]) a
 | _,_,_,_,_,_=>False
variable {L : List Nat}
theorem chain2_len:∀ (i:Nat) (os:List Oper) (fs:List Fk) (vs:List Value) (gs:List Fk) (a:Act),Chain2 P ops W0 Q L i os fs vs gs a→os.length=fs.length
 | _,[],[],_,_,_,_=>rfl
 | _,[],_::_,_,_,_,h=>by cases h
 | _,_::_,[],_,_,_,h=>by cases h
 | i,_::os,.is u::fs,vs,gs,a,h=>by simp[chain2_len _ os fs _ _ _ h.2]
 | i,_::os,.kn u::fs,vs,gs,a,h=>by simp[chain2_len _ os fs _ _ _ h.2]
 | i,_::os,.has ψ::fs,vs,gs,a,h=>by simp[chain2_len _ os fs _ _ _ (h.2 undef)]
 | i,_::os,.fn js F::fs,vs,gs,a,h=>by simp[chain2_len _ os fs _ _ _ h.2]
 | i,_::os,.late::fs,vs,gs,a,h=>by simp[chain2_len _ os fs _ _ _ (show Chain2 P ops W0 Q L (i+1) os fs _ _ _ from h)]
theorem map_range_getD(vals:Nat→Value)(i:Nat){js:List Nat}(h:∀ j ∈ js,j<i):(js.map fun j=>((List.range i).map vals).getD j undef)=js.map vals:=by
 refine List.map_congr_left fun j hj => ?_
 rw[List.getD_eq_getElem?_getD,List.getElem?_map,List.getElem?_range (h j hj)];rfl
structure Fits (ops:Array Oper) (Fs:List Fk):Prop where
 late:∀ (j:Nat) (o:Oper) (f:Fk),ops[j]? = some o→Fs[j]? = some f→f.kind=3→o.dst=none
 js:∀ (i:Nat) (o:Oper) (f:Fk),ops[i]? = some o→Fs[i]? = some f→∀ j ∈ f.js,depB o j=true∧j<i
def Good(Fs:List Fk)(vals:Nat→Value):Prop:=∀ (j:Nat) (f:Fk),Fs[j]? = some f→vals j=f.val vals (vals j)
theorem chain2_to{Fs:List Fk}{a0:Act}(h:Chain2 P ops W0 Q L 0 ops.toList Fs [] [] a0)(hF:Fits ops Fs)(vals:Nat→Value)(hv:Good Fs vals) :
  ∀ i,i≤ops.size→Chain2 P ops W0 Q L i (ops.toList.drop i) (Fs.drop i) ((List.range i).map vals) (Fs.take i) (putL ops a0 vals (fun _=>true) i)
 | 0,_=>by simpa [putL] using h
 | i+1,hi=>by
  have ih:=chain2_to h hF vals hv i (by omega);have hlen:ops.size=Fs.length:=by simpa using chain2_len _ _ _ _ _ _ h
  have ho:ops[i]? = some (ops.toList[i]'(by simp;omega)):=by rw[Array.getElem?_eq_getElem (show i<ops.size by omega)];simp
  have hf:Fs[i]? = some (Fs[i]'(by omega)):=List.getElem?_eq_getElem (by omega);rw[List.drop_eq_getElem_cons (l:=ops.toList) (i:=i) (by simp;omega),List.drop_eq_getElem_cons (l:=Fs) (i:=i) (by omega)] at ih;have hvi:=hv i _ hf;have hjs:=hF.js i _ _ ho hf;have hlt:=hF.late i _ _ ho hf;rw[List.range_succ,List.map_append,List.take_succ_eq_append_getElem (by omega)]
  have hd:dstOf ops i=(ops.toList[i]'(by simp;omega)).dst:=by
   unfold dstOf;rw[ho];rfl
  unfold putL;rw[if_pos rfl,hd]
  generalize Fs[i]'(by omega)=f at ih hvi hjs hlt
  show Chain2 P ops W0 Q L (i+1) _ _ (_++[vals i]) _ _
  cases f with
  | is u=>rw[show vals i=u from hvi];exact ih.2
  | kn u=>rw[show vals i=u from hvi];exact ih.2
  | has ψ=>exact ih.2 (vals i)
  | fn js F=>
   have e:(js.map fun j=>((List.range i).map vals).getD j undef)=js.map vals:=map_range_getD vals i fun j hj=>(hjs j hj).2
   have e2:=ih.2;rw[e,←show vals i=F (js.map vals) from hvi] at e2;exact e2
  | late=>
   rw[show vals i=undef from hvi,hlt rfl];exact ih
theorem put_none{a:Act}{o:Oper}(h:o.dst=none)(v:Value):a.put o.dst v=a:=by rw[h];rfl
theorem val_congr{f:Fk}{vals vals':Nat→Value}{v:Value}(h:∀ j ∈ f.js,vals j=vals' j):f.val vals v=f.val vals' v:=by
 cases f with
 | fn js F=>exact congrArg F (List.map_congr_left h)
 | _=>rfl
theorem complete{Fs:List Fk}(hjs:∀ (i:Nat) (f:Fk),Fs[i]? = some f→∀ j ∈ f.js,j<i)(vals:Nat→Value)(lst:Nat→Bool)(hl:∀ (j:Nat) (f:Fk),lst j=true→Fs[j]? = some f→vals j=f.val vals (vals j))
  (hd:∀ (j:Nat) (f:Fk),lst j=true→Fs[j]? = some f→∀ k ∈ f.js,lst k=true):∃ vals',Good Fs vals'∧∀ j,lst j=true→vals' j=vals j:=by
 have key:∀ n,∃ vals':Nat→Value,(∀ (j:Nat) (f:Fk),j<n→Fs[j]? = some f→vals' j=f.val vals' (vals' j))∧∀ j,lst j=true→vals' j=vals j:=by
  intro n
  induction n with
  | zero=>exact⟨vals,fun j f hj=>absurd hj (by omega),fun _ _=>rfl⟩
  | succ n ih=>
   obtain⟨vals',h1,h2⟩:=ih
   by_cases hn:lst n=true
   ·refine⟨vals',fun j f hj hf => ?_,h2⟩
    rcases (by omega:j<n∨j=n) with h | rfl
    ·exact h1 j f h hf
    ·rw[h2 j hn]
     rw[hl j f hn hf];rw[val_congr (vals:=vals') (vals':=vals) fun k hk=>h2 k (hd j f hn hf k hk)];exact(congrArg _ (hl j f hn hf)).trans (by rw[←hl j f hn hf])
   ·cases hf:Fs[n]? with
    | none=>
     refine⟨vals',fun j f hj hfj => ?_,h2⟩
     rcases (by omega:j<n∨j=n) with h | rfl
     ·exact h1 j f h hfj
     ·rw[hf] at hfj;cases hfj
    | some f=>
     refine⟨upd vals' n (f.val vals' (vals' n)),fun j g hj hg => ?_,fun j hj => ?_⟩
     ·have hcg:∀ k ∈ g.js,upd vals' n (f.val vals' (vals' n)) k=vals' k:=fun k hk=>by
       have:=hjs j g hg k hk;unfold upd;rw[if_neg (by omega)]
      rw[val_congr hcg]
      rcases (by omega:j<n∨j=n) with h | rfl
      ·unfold upd
       rw[if_neg (by omega)];exact h1 j g h hg
      ·rw[hf] at hg
       injection hg with hg
       subst hg;unfold upd;rw[if_pos rfl]
       cases f <;> rfl
     ·unfold upd
      rw[if_neg (fun (e:j=n)=>hn (e ▸ hj))];exact h2 j hj
 obtain⟨vals',h1,h2⟩:=key Fs.length;exact⟨vals',fun j f hf=>h1 j f (List.getElem?_eq_some_iff.1 hf).1 hf,h2⟩
def Runs(P:Program)(ops:Array Oper)(a0:Act)(vals:Nat→Value)(i:Nat):Prop:=
 ∀ o,ops[i]? = some o→(Region.wanted o (yielded ops (putL ops a0 vals (fun _=>true) i).tmps)=true∧∀ w,(execOp (putL ops a0 vals (fun _=>true) i).eval o).run P w=.ok (.value (vals i)) w) ∨
  (Region.wanted o (yielded ops (putL ops a0 vals (fun _=>true) i).tmps)=false∧vals i=undef)
theorem runs_of{Fs:List Fk}{a0:Act}(h:Chain2 P ops W0 Q L 0 ops.toList Fs [] [] a0)(hF:Fits ops Fs)(vals:Nat→Value)(hv:Good Fs vals){i:Nat}{f:Fk}(hi:i<ops.size)(hf:Fs[i]? = some f)(hk:f.kind=0){w:World}
  (hkn:∀ (j:Nat) (g:Fk),j<i→ancB ops i j=true→Fs[j]? = some g→∃ lo hi,g.at_ (vals j) lo hi w):Runs P ops a0 vals i:=by
 intro o ho;have hlen:ops.size=Fs.length:=by simpa using chain2_len _ _ _ _ _ _ h
 have hc:=chain2_to h hF vals hv i (by omega);rw[List.drop_eq_getElem_cons (l:=ops.toList) (i:=i) (by simp;omega),List.drop_eq_getElem_cons (l:=Fs) (i:=i) (by omega)] at hc;rw[show ops.toList[i]'(by simp;omega)=o from by rw[Array.getElem?_eq_getElem hi] at ho;simpa using ho,show Fs[i]'(by omega)=f from by rw[List.getElem?_eq_getElem (by omega)] at hf;injection hf] at hc
 have hknown:∃ w,Known ops i ((List.range i).map vals) (Fs.take i) w:=⟨w,fun j v g ha hvj hgj=>by
  have hji:j<i:=by have:=(List.getElem?_eq_some_iff.1 hvj).1;simpa using this
  rw[List.getElem?_map,List.getElem?_range hji] at hvj
  simp at hvj
  subst hvj
  rw[List.getElem?_take_of_lt hji] at hgj
  exact hkn j g hji ha hgj⟩
 have hst:StpP P ops i o (vals i) ((List.range i).map vals) (Fs.take i) (putL ops a0 vals (fun _=>true) i):=by
  have hvi:=hv i f hf;have hjs:=hF.js i o f ho hf
  cases f with
  | is u=>rw[show vals i=u from hvi];exact hc.1
  | kn u=>cases hk
  | has ψ=>cases hk
  | late=>cases hk
  | fn js F=>
   have e:(js.map fun j=>((List.range i).map vals).getD j undef)=js.map vals:=map_range_getD vals i fun j hj=>(hjs j hj).2
   have e2:=hc.1;rw[e,←show vals i=F (js.map vals) from hvi] at e2;exact e2
 rcases hst with ⟨h1,h2⟩ | h1
 ·exact .inl ⟨h1,h2 hknown⟩
 ·exact .inr h1
theorem putL_late(l:Nat→Bool)(a:Act)(vals:Nat→Value)(i:Nat)(v:Value)(hi:dstOf ops i=none):∀ n,putL ops a (upd vals i v) l n=putL ops a vals l n
 | 0=>rfl
 | n+1=>by
  unfold putL;rw[putL_late l a vals i v hi n]
  by_cases hin:n=i
  ·subst hin
   rw[hi]
   split <;> rfl
  ·rw[show upd vals i v n=vals n from by simp[upd,hin]]
def Early(W0:World)(Fs:List Fk)(L:List Nat)(listed:Array Bool)(vals:Nat→Value)(w:World):Prop:=
 ∃ lo hi:Nat→Nat,Below W0.heap.size W0 w∧(∀ (j:Nat) (g:Fk),listed.getD j false=true→Fs[j]? = some g→g.at_ (vals j) (lo j) (hi j) w)∧(∀ i j:Nat,listed.getD i false=true→listed.getD j false=true→i≠j→hi i≤lo j∨hi j≤lo i) ∧
  (∀ i:Nat,listed.getD i false=true→W0.heap.size≤lo i∧lo i≤hi i∧hi i≤w.heap.size)∧(∀ j ∈ L,listed.getD j false=false)
def Later(P:Program)(ops:Array Oper)(Q:Exit→Act→World→Prop)(ks:List Nat)(L:List Nat)(a0:Act)(listed:Array Bool)(vals:Nat→Value)(w:World):Prop:=
 ∃ rem:List Nat,rem.Nodup∧LateAny P ops Q rem.length rem (putL ops a0 vals (fun _=>true) ops.size) w∧(∀ j,j<ops.size→ks.getD j 0≠0→ks.getD j 0≠3→listed.getD j false=true)∧(∀ j ∈ rem,j ∈ L) ∧
  (∀ j ∈ L,(listed.getD j false=false↔j ∈ rem))∧∀ j,j<ops.size→ks.getD j 0=0→listed.getD j false=false→Runs P ops a0 vals j
def wpAnyL(P:Program)(ops:Array Oper)(Q:Exit→Act→World→Prop):Nat→Array Bool→Act→World→Prop
 | 0,listed,a,w=>Region.ready .any ops listed=[]∧Q .normal a w
 | fuel+1,listed,a,w=>
  (Region.ready .any ops listed=[]→Q .normal a w) ∧
  ∀ i ∈ Region.ready .any ops listed,∀ o,ops[i]? = some o→if Region.wanted o (yielded ops a.tmps)=true then Oper.wp P o a w (wpAnyL P ops Q fuel (listed.setIfInBounds i true)) Q else wpAnyL P ops Q fuel (listed.setIfInBounds i true) (a.put o.dst undef) w
theorem wpOpL_step{i:Nat}{o:Oper}{K:Act→World→Prop}{a:Act}{w:World}(ho:ops[i]? = some o)
  (h:∀ K':Act→World→Prop,(∀ a w,K a w→K' a w)→if Region.wanted o (yielded ops a.tmps)=true then Oper.wp P o a w K' Q else K' (a.put o.dst undef) w) :
  ∀ o',ops[i]? = some o'→if Region.wanted o' (yielded ops a.tmps)=true then Oper.wp P o' a w K Q else K (a.put o'.dst undef) w:=by
 intro o' ho';rw[ho] at ho';injection ho' with ho'
 subst ho';exact h K (fun _ _ h=>h)
theorem wpAnyL_any:∀ (fuel:Nat) (listed:Array Bool) (a:Act) (w:World),wpAnyL P ops Q fuel listed a w→wpAny P .any ops Q fuel listed a w
 | 0,_,_,_,h=>h
 | fuel+1,listed,a,w,h=>⟨h.1,fun i hi=>by
  obtain⟨_,o,ho,_⟩:=mem_ready.1 hi
  have h2:=h.2 i hi o ho
  refine wpOp_step ho fun K' hK => ?_
  split
  ·rename_i hw
   rw[if_pos hw] at h2
   exact Oper.wp_mono (fun a w hh=>hK a w (wpAnyL_any fuel _ a w hh)) h2
  ·rename_i hw
   rw[if_neg hw] at h2
   exact hK _ _ (wpAnyL_any fuel _ _ _ h2)⟩
theorem chain2_any(hsel:Region.noSelect ops=true)(hf:freeB ops=true){Fs:List Fk}{ks:List Nat}(hks:Fs.map Fk.kind=ks)(hlb:lateB ops ks=true)(hF:Fits ops Fs)(hLk:∀ j,j<ops.size→(j ∈ L↔ks.getD j 0=3))(hLn:L.Nodup)(hLb:∀ j ∈ L,j<ops.size)
  (hL:∀ f ∈ Fs,f.lasts) {a0:Act} (h:Chain2 P ops W0 Q L 0 ops.toList Fs [] [] a0) :
  ∀ (fuel:Nat) (listed:Array Bool) (vals:Nat→Value) (w:World),listed.size=ops.size→cntL (fun j=>listed.getD j false) ops.size≤fuel →
   Good Fs vals→(∀ j o,ops[j]? = some o→listed.getD j false=true→∀ e ∈ o.after,Region.binds .any e=true→listed.getD e.on false=true) →
   (Early W0 Fs L listed vals w∨Later P ops Q ks L a0 listed vals w) →
   wpAnyL P ops Q fuel listed (putL ops a0 vals (fun j=>listed.getD j false) ops.size) w:=by
 have hlen:ops.size=Fs.length:=by simpa using chain2_len _ _ _ _ _ _ h
 have hkd:∀ (j:Nat) (f:Fk),Fs[j]? = some f→ks.getD j 0=f.kind:=fun j f hj=>by rw[←hks,List.getD_eq_getElem?_getD,List.getElem?_map,hj];rfl
 -- all that is late may begin
 have begin_:∀ (listed:Array Bool) (vals:Nat→Value) (w:World),Good Fs vals→(∀ j,j<ops.size→ks.getD j 0≠0→ks.getD j 0≠3→listed.getD j false=true)→Early W0 Fs L listed vals w →
   Later P ops Q ks L a0 listed vals w:=by
  intro listed vals w hv hall ⟨lo,hi,hb,hg,hr1,hr2,hnl⟩;have hc:=chain2_to h hF vals hv ops.size (Nat.le_refl _);rw[List.drop_of_length_le (by simp),List.drop_of_length_le (by omega),List.take_of_length_le (by omega)] at hc
  have has_listed:∀ (i:Nat) ψ,Fs[i]? = some (.has ψ)→listed.getD i false=true:=fun i ψ hi=>hall i (by have:=(List.getElem?_eq_some_iff.1 hi).1;omega) (by rw[hkd i _ hi];simp[Fk.kind]) (by rw[hkd i _ hi];simp[Fk.kind])
  have fact:∀ (j:Nat) (g:Fk),Fs[j]? = some g→g.at_ (vals j) (lo j) (hi j) w:=fun j g hgj=>by
   cases g with
   | is u=>exact hv j _ hgj
   | kn u=>exact hv j _ hgj
   | has ψ=>exact hg j _ (has_listed j ψ hgj) hgj
   | fn js F=>trivial
   | late=>trivial
  refine⟨L,hLn,?_,hall,fun _ h=>h,fun j hj=>⟨fun _=>hj,fun _=>hnl j hj⟩,fun j hj hk _ => ?_⟩
  ·refine hc w lo hi hb (fun j v g hj hgj => ?_) ⟨fun i j ψ φ hi hj hne=>hr1 i j (has_listed i ψ hi) (has_listed j φ hj) hne,fun i ψ hi=>hr2 i (has_listed i ψ hi)⟩
   have hjl:j<ops.size:=by have:=(List.getElem?_eq_some_iff.1 hj).1;simpa using this
   rw[List.getElem?_map,List.getElem?_range hjl] at hj;simp at hj;subst hj;exact fact j g hgj
  ·have hfj:Fs[j]? = some (Fs[j]'(by omega)):=List.getElem?_eq_getElem (by omega)
   exact runs_of h hF vals hv hj hfj (by rw[←hkd j _ hfj];exact hk) (w:=w) fun k g _ _ hgk=>⟨_,_,fact k g hgk⟩
 have fin:∀ (listed:Array Bool) (vals:Nat→Value) (w:World),(∀ j,j<ops.size→listed.getD j false=true)→Good Fs vals →
   (Early W0 Fs L listed vals w∨Later P ops Q ks L a0 listed vals w) →
   Q .normal (putL ops a0 vals (fun j=>listed.getD j false) ops.size) w:=by
  intro listed vals w hall hv hph;rw[putL_congr (ops:=ops) a0 (vals:=vals) (vals':=vals) (l:=fun j=>listed.getD j false) (l':=fun _=>true) ops.size (fun j hj=>⟨hall j hj,fun _=>rfl⟩)]
  obtain⟨rem,_,hla,_,hsub,hrem,_⟩:Later P ops Q ks L a0 listed vals w:=by
   rcases hph with h1 | h1
   ·exact begin_ listed vals w hv (fun j hj _ _=>hall j hj) h1
   ·exact h1
  have hr0:rem=[]:=List.eq_nil_iff_forall_not_mem.2 fun j hj=>by have:=(hrem j (hsub j hj)).2 hj;rw[hall j (hLb j (hsub j hj))] at this;cases this
  rw[hr0] at hla;exact hla
 intro fuel
 induction fuel with
 | zero=>
  intro listed vals w hs hcnt hv hdown hph;have hall:=cntL_zero (Nat.le_zero.1 hcnt);refine⟨?_,fin listed vals w hall hv hph⟩
  refine List.eq_nil_iff_forall_not_mem.2 fun i hi => ?_
  obtain⟨h0,o,ho,_⟩:=mem_ready.1 hi;have hi':i<ops.size:=(Array.getElem?_eq_some_iff.1 ho).1;have:=hall i hi';simp[show i<listed.size by omega] at h0 this;rw[h0] at this
  cases this
 | succ fuel ih=>
  intro listed vals w hs hcnt hv hdown hph;refine⟨fun hr => ?_,fun i hi => ?_⟩
  ·refine fin listed vals w ?_ hv hph
   intro j
   induction j using Nat.strongRecOn with
   | _ j ihj=>
    intro hj
    by_cases hl:listed.getD j false=true
    ·exact hl
    ·have hm:j ∈ Region.ready .any ops listed:=by
      refine mem_ready.2 ⟨by simp[show j<listed.size by omega] at hl ⊢;exact hl,ops[j],Array.getElem?_eq_getElem hj,fun e he hbn => ?_⟩;have he':=freeB_edge hf (Array.getElem?_eq_getElem hj) he hbn;exact ihj e.on he' (by omega)
     rw[hr] at hm
     cases hm
  ·obtain⟨h0,o,ho,hall⟩:=mem_ready.1 hi
   have hi':i<ops.size:=(Array.getElem?_eq_some_iff.1 ho).1;have hun:listed.getD i false=false:=by simp[show i<listed.size by omega] at h0 ⊢;exact h0
   have hfi:Fs[i]? = some (Fs[i]'(by omega)):=List.getElem?_eq_getElem (by omega);obtain⟨f,hfe⟩:∃ f,Fs[i]'(by omega)=f:=⟨_,rfl⟩;rw[hfe] at hfi
   have hdep:∀ j,depB o j=true→listed.getD j false=true:=by
    intro j hj;obtain⟨e,he,hbe,rfl⟩:=depB_edge hj;exact hall e he hbe
   have hanc:∀ j,ancB ops i j=true→listed.getD j false=true:=fun j hj=>ancs_listed hdown ho hdep hj
   have hdi:dstOf ops i=o.dst:=by unfold dstOf;rw[ho];rfl
   have hl:(fun j=>(listed.setIfInBounds i true).getD j false)=upd (fun j=>listed.getD j false) i true:=by
    funext j
    unfold upd
    by_cases hji:j=i
    ·subst hji;simp[show j<listed.size by omega]
    ·rw[if_neg hji,getD_set_ne false (Ne.symm hji)]
   have hdown':∀ j o,ops[j]? = some o→(listed.setIfInBounds i true).getD j false=true→∀ e ∈ o.after,Region.binds .any e=true→(listed.setIfInBounds i true).getD e.on false=true:=by
    intro j oj hoj hlj e he hbe
    by_cases hji:j=i
    ·subst hji
     rw[ho] at hoj;injection hoj with hoj
     subst hoj;exact getD_set_true (hall e he hbe)
    ·rw[getD_set_ne false (Ne.symm hji)] at hlj
     exact getD_set_true (hdown j oj hoj hlj e he hbe)
   have hcnt':cntL (fun j=>(listed.setIfInBounds i true).getD j false) ops.size≤fuel:=by
    rw[hl];have:=cntL_upd (l:=fun j=>listed.getD j false) hun ops.size hi';omega
   have hs':(listed.setIfInBounds i true).size=ops.size:=by simpa using hs
   have hlist':∀ j,(listed.setIfInBounds i true).getD j false=true→j≠i→listed.getD j false=true:=fun j hj hne=>by rwa [getD_set_ne false (Ne.symm hne)] at hj
   have hsame:∀ t ∈ o.looksAt ops,(putL ops a0 vals (fun j=>listed.getD j false) ops.size).tmps[t]? = (putL ops a0 vals (fun _=>true) i).tmps[t]?:=by
    intro t ht;rw[←putL_to a0 vals i ops.size (by omega)]
    refine putL_look a0 vals _ _ t ops.size fun j hj hd => ?_
    unfold dstOf at hd;obtain⟨oj,hoj,hdj⟩:=Option.bind_eq_some_iff.1 hd
    by_cases hij:i=j
    ·subst hij
     simp[hun]
    ·rcases (freeB_pair hf ho hoj hij hdj).2 ht with ⟨h1,h2⟩ | ⟨h1,h2⟩
     ·rw[hdep j h2,decide_eq_true h1]
     ·rw[decide_eq_false (by omega)]
      by_cases hlj:listed.getD j false=true
      ·exfalso
       obtain⟨e,he,hbe,rfl⟩:=depB_edge h2;have:=hdown j oj hoj hlj e he hbe;rw[hun] at this
       cases this
      ·simpa using hlj
   obtain⟨hex,hwa⟩:=look_same (Region.noSelect_spec hsel i o · · ho) hsame;have hsz:(putL ops a0 vals (fun j=>listed.getD j false) ops.size).tmps.size=(putL ops a0 vals (fun _=>true) i).tmps.size:=by rw[putL_size,putL_size]
   by_cases hk3:f.kind=3
   ·-- a late operation
    have hki:ks.getD i 0=3:=by rw[hkd i f hfi];exact hk3
    obtain⟨hd0,hg0,hlt⟩:=lateB_spec hlb ho hki;have hiL:i ∈ L:=(hLk i hi').2 hki
    have hnp:∀ j,j<ops.size→ks.getD j 0≠0→ks.getD j 0≠3→listed.getD j false=true:=fun j hj h0 h3=>by
     rcases (hlt j hj).1 with h | h | h
     ·exact absurd h h0
     ·exact absurd h h3
     ·exact ancs_listed hdown ho hdep h
    obtain⟨rem,hnd,hla,_,hsub,hrem,hrun⟩:Later P ops Q ks L a0 listed vals w:=by
     rcases hph with h1 | h1
     ·exact begin_ listed vals w hv hnp h1
     ·exact h1
    have him:i ∈ rem:=(hrem i hiL).1 hun;obtain⟨k,hk⟩:∃ k,rem.length=k+1:=⟨rem.length - 1,by have:=List.length_pos_of_mem him;omega⟩;rw[hk] at hla
    obtain⟨o',ho',hwp⟩:=hla i him (fun s' hs'=>by
     cases hh:ancB ops i s' with
     | false=>rfl
     | true=>
      have h1:=hanc s' hh
      rw[(hrem s' (hsub s' hs')).2 hs'] at h1
      cases h1)
    rw[ho] at ho';injection ho' with ho'
    subst ho'
    have hsameF:∀ t ∈ o.looksAt ops,(putL ops a0 vals (fun j=>listed.getD j false) ops.size).tmps[t]? = (putL ops a0 vals (fun _=>true) ops.size).tmps[t]?:=by
     intro t ht
     refine putL_look a0 vals _ _ t ops.size fun j hj hd => ?_
     unfold dstOf at hd;obtain⟨oj,hoj,hdj⟩:=Option.bind_eq_some_iff.1 hd
     by_cases hij:i=j
     ·subst hij
      rw[ho] at hoj;injection hoj with hoj
      subst hoj;rw[hd0] at hdj
      cases hdj
     ·rcases (freeB_pair hf ho hoj hij hdj).2 ht with ⟨h1,h2⟩ | ⟨h1,h2⟩
      ·exact hdep j h2
      ·rcases (hlt j hj).2 with h | h
       ·omega
       ·exact absurd ht (h oj t hoj hdj)
    obtain⟨hexF,hwaF⟩:=look_same (Region.noSelect_spec hsel i o · · ho) hsameF;have hszF:(putL ops a0 vals (fun j=>listed.getD j false) ops.size).tmps.size=(putL ops a0 vals (fun _=>true) ops.size).tmps.size:=by rw[putL_size,putL_size]
    have hwant:Region.wanted o (yielded ops (putL ops a0 vals (fun j=>listed.getD j false) ops.size).tmps)=true:=by unfold Region.wanted;rw[hg0]
    refine wpOpL_step ho fun K' hK => ?_
    rw[if_pos hwant]
    refine Oper.wp_mono (fun a' w' ⟨v,e,h1⟩ => ?_) (wp_swap (Q:=Q) (G:=fun _ w'=>LateAny P ops Q k (rem.erase i) (putL ops a0 vals (fun _=>true) ops.size) w') hexF hszF
     (Oper.wp_mono (fun a' w' hh=>⟨undef,by rw[put_none hd0];exact hh.1,hh.2⟩) hwp))
    rw[e];refine hK _ _ ?_;rw[put_none hd0]
    have hpl:putL ops a0 vals (fun j=>listed.getD j false) ops.size=putL ops a0 vals (fun j=>(listed.setIfInBounds i true).getD j false) ops.size:=by
     have:=putL_put hf a0 vals (fun j=>listed.getD j false) i undef hun ops.size hi' (Nat.le_refl _);rw[hdi,hd0] at this;rw[hl,←putL_late (upd (fun j=>listed.getD j false) i true) a0 vals i undef (by rw[hdi];exact hd0) ops.size];exact this
    rw[hpl];refine ih (listed.setIfInBounds i true) vals w' hs' hcnt' hv hdown' (.inr ⟨rem.erase i,hnd.erase i,?_,fun j hj h0 h3=>getD_set_true (hnp j hj h0 h3),fun j hj=>hsub j (List.mem_of_mem_erase hj),fun j hj => ?_,fun j hj hk0 hlj => ?_⟩)
    ·rw[List.length_erase_of_mem him,hk]
     exact h1
    ·by_cases hji:j=i
     ·subst hji
      refine⟨fun hh => ?_,fun hh=>absurd hh (List.Nodup.not_mem_erase hnd)⟩;rw[show (listed.setIfInBounds j true).getD j false=true from by simp[show j<listed.size by omega]] at hh
      cases hh
     ·rw[getD_set_ne false (Ne.symm hji),List.mem_erase_of_ne hji]
      exact hrem j hj
    ·by_cases hji:j=i
     ·subst hji;rw[hki] at hk0;cases hk0
     ·rw[getD_set_ne false (Ne.symm hji)] at hlj
      exact hrun j hj hk0 hlj
   ·by_cases hk0:f.kind=0
    ·-- an operation that needs no memory
     have hki:ks.getD i 0=0:=by rw[hkd i f hfi];exact hk0
     have hrun:Runs P ops a0 vals i:=by
      rcases hph with ⟨lo,hi,hb,hg,_⟩ | ⟨_,_,_,_,_,_,hrun⟩
      ·exact runs_of h hF vals hv hi' hfi hk0 (w:=w) fun j g _ ha hgj=>⟨_,_,hg j g (hanc j ha) hgj⟩
      ·exact hrun i hi' hki hun
     have next:wpAnyL P ops Q fuel (listed.setIfInBounds i true) ((putL ops a0 vals (fun j=>listed.getD j false) ops.size).put o.dst (vals i)) w:=by
      have hpl:=putL_put hf a0 vals (fun j=>listed.getD j false) i (vals i) hun ops.size hi' (Nat.le_refl _);rw[hdi] at hpl
      have hup:upd vals i (vals i)=vals:=by
       funext j
       unfold upd
       split
       ·rename_i hji;rw[hji]
       ·rfl
      rw[hpl,hup,←hl];refine ih (listed.setIfInBounds i true) vals w hs' hcnt' hv hdown' ?_
      rcases hph with ⟨lo,hi,hb,hg,hr1,hr2,hnl⟩ | ⟨rem,hnd,hla,hnp,hsub,hrem,hrun⟩
      ·refine .inl ⟨upd lo i w.heap.size,upd hi i w.heap.size,hb,fun j g hlj hgj => ?_,fun j j' hj hj' hne => ?_,fun j hj => ?_,fun j hj => ?_⟩
       ·by_cases hji:j=i
        ·subst hji
         rw[hfi] at hgj;injection hgj with hgj
         subst hgj;have hvi:=hv j f hfi
         cases f with
         | is u=>exact hvi
         | fn js F=>trivial
         | kn u=>cases hk0
         | has ψ=>cases hk0
         | late=>trivial
        ·simp only[upd,if_neg hji]
         exact hg j g (hlist' j hlj hji) hgj
       ·unfold upd
        by_cases hji:j=i
        ·subst hji
         rw[if_pos rfl,if_neg (Ne.symm hne),if_neg (Ne.symm hne),if_pos rfl];exact .inr (hr2 j' (hlist' j' hj' (Ne.symm hne))).2.2
        ·by_cases hji':j'=i
         ·subst hji'
          rw[if_neg hji,if_pos rfl,if_pos rfl,if_neg hji];exact .inl (hr2 j (hlist' j hj hji)).2.2
         ·rw[if_neg hji,if_neg hji',if_neg hji',if_neg hji]
          exact hr1 j j' (hlist' j hj hji) (hlist' j' hj' hji') hne
       ·unfold upd
        by_cases hji:j=i
        ·subst hji
         simp only[if_pos];exact⟨hb.size,Nat.le_refl _,Nat.le_refl _⟩
        ·simp only[if_neg hji]
         exact hr2 j (hlist' j hj hji)
       ·have hji:j≠i:=by
         rintro rfl;have:=(hLk j (hLb j hj)).1 hj;rw[hki] at this
         cases this
        rw[getD_set_ne false (Ne.symm hji)];exact hnl j hj
      ·refine .inr ⟨rem,hnd,hla,fun j hj h0 h3=>getD_set_true (hnp j hj h0 h3),hsub,fun j hj => ?_,fun j hj hkj hlj => ?_⟩
       ·have hji:j≠i:=by
         rintro rfl;have:=(hLk j (hLb j hj)).1 hj;rw[hki] at this
         cases this
        rw[getD_set_ne false (Ne.symm hji)];exact hrem j hj
       ·by_cases hji:j=i
        ·subst hji
         rw[show (listed.setIfInBounds j true).getD j false=true from by simp[show j<listed.size by omega]] at hlj
         cases hlj
        ·rw[getD_set_ne false (Ne.symm hji)] at hlj
         exact hrun j hj hkj hlj
     refine wpOpL_step ho fun K' hK => ?_
     rw[hwa]
     rcases hrun o ho with ⟨h1,h2⟩ | ⟨h1,h2⟩
     ·rw[if_pos h1]
      unfold Oper.wp;rw[hex,h2 w];exact hK _ _ next
     ·rw[if_neg (by rw[h1];simp)]
      rw[h2] at next;exact hK _ _ next
    ·-- an operation that reads or makes memory
     have hkn:ks.getD i 0≠0:=by rw[hkd i f hfi];exact hk0
     have hk3':ks.getD i 0≠3:=by rw[hkd i f hfi];exact hk3
     obtain⟨lo,hi,hb,hg,hr1,hr2,hnl⟩:Early W0 Fs L listed vals w:=by
      rcases hph with h1 | ⟨rem,_,_,hnp,_⟩
      ·exact h1
      ·have:=hnp i hi' hkn hk3'
       rw[hun] at this
       cases this
     have hc:=chain2_to h hF vals hv i (by omega);rw[List.drop_eq_getElem_cons (l:=ops.toList) (i:=i) (by simp;omega),List.drop_eq_getElem_cons (l:=Fs) (i:=i) (by omega),hfe] at hc;rw[show ops.toList[i]'(by simp;omega)=o from by rw[Array.getElem?_eq_getElem hi'] at ho;simpa using ho] at hc
     have hst:Stp2 P ops W0 i o f ((List.range i).map vals) (Fs.take i) (putL ops a0 vals (fun _=>true) i):=by
      cases f with
      | is u=>exact absurd rfl hk0
      | kn u=>exact hc.1
      | has ψ=>exact hc.1
      | fn js F=>exact absurd rfl hk0
      | late=>exact absurd rfl hk3
     have hjn:f.js=[]:=by cases f <;> first | rfl | exact absurd rfl hk0
     have hjl:∀ (j:Nat) (g:Fk),listed.getD j false=true→Fs[j]? = some g→∀ k ∈ g.js,listed.getD k false=true:=fun j g hlj hgj k hk=>by
      have hoj:ops[j]? = some (ops[j]'(by have:=(List.getElem?_eq_some_iff.1 hgj).1;omega)):=Array.getElem?_eq_getElem _;obtain⟨e,he,hbe,rfl⟩:=depB_edge (hF.js j _ g hoj hgj k hk).1;exact hdown j _ hoj hlj e he hbe
     have next:∀ v w',Below w.heap.size w w'→f.at_ v w.heap.size w'.heap.size w' →
       wpAnyL P ops Q fuel (listed.setIfInBounds i true) ((putL ops a0 vals (fun j=>listed.getD j false) ops.size).put o.dst v) w':=by
      intro v w' hbw hfv;obtain⟨vals2,hgood,hagree⟩:=complete (Fs:=Fs) (fun i f hf j hj=>(hF.js i _ f (Array.getElem?_eq_getElem (by have:=(List.getElem?_eq_some_iff.1 hf).1;omega)) hf j hj).2) (upd vals i v) (fun j=>(listed.setIfInBounds i true).getD j false)
       (fun j g hlj hgj=>by
        by_cases hji:j=i
        ·subst hji
         rw[hfi] at hgj
         injection hgj with hgj
         subst hgj
         unfold upd
         simp only[if_pos]
         cases f with
         | is u=>exact absurd rfl hk0
         | kn u=>exact hfv
         | has ψ=>rfl
         | fn js F=>exact absurd rfl hk0
         | late=>exact absurd rfl hk3
        ·have hlj':=hlist' j hlj hji
         rw[val_congr (vals:=upd vals i v) (vals':=vals) fun k hk=>by
          have:=hjl j g hlj' hgj k hk
          unfold upd
          rw[if_neg]
          rintro rfl
          rw[hun] at this
          cases this]
         rw[show upd vals i v j=vals j from by simp[upd,hji]]
         exact hv j g hgj)
       (fun j g hlj hgj k hk=>by
        by_cases hji:j=i
        ·subst hji
         rw[hfi] at hgj
         injection hgj with hgj
         subst hgj
         rw[hjn] at hk
         cases hk
        ·exact getD_set_true (hjl j g (hlist' j hlj hji) hgj k hk))
      rw[←hdi,putL_put hf a0 vals _ i v hun ops.size hi' (Nat.le_refl _),←hl];rw[putL_congr (ops:=ops) a0 (vals:=upd vals i v) (vals':=vals2) (l:=fun j=>(listed.setIfInBounds i true).getD j false) (l':=fun j=>(listed.setIfInBounds i true).getD j false) ops.size (fun j hj=>⟨rfl,fun hlj=>(hagree j hlj).symm⟩)];have hbW:=zbt hb hbw;refine ih (listed.setIfInBounds i true) vals2 w' hs' hcnt' hgood hdown' (.inl ⟨upd lo i w.heap.size,upd hi i w'.heap.size,hbW,fun j g hlj hgj => ?_,fun j j' hj hj' hne => ?_,fun j hj => ?_,fun j hj => ?_⟩)
      ·rw[hagree j hlj]
       unfold upd
       by_cases hji:j=i
       ·subst hji
        rw[if_pos rfl,if_pos rfl,if_pos rfl];rw[hfi] at hgj;injection hgj with hgj
        rw[←hgj];exact hfv
       ·rw[if_neg hji,if_neg hji,if_neg hji]
        exact Fk.keeps (hL g (List.mem_of_getElem? hgj)) (hg j g (hlist' j hlj hji) hgj) hbw
      ·unfold upd
       by_cases hji:j=i
       ·subst hji
        rw[if_pos rfl,if_neg (Ne.symm hne),if_neg (Ne.symm hne),if_pos rfl];exact .inr (hr2 j' (hlist' j' hj' (Ne.symm hne))).2.2
       ·by_cases hji':j'=i
        ·subst hji'
         rw[if_neg hji,if_pos rfl,if_pos rfl,if_neg hji];exact .inl (hr2 j (hlist' j hj hji)).2.2
        ·rw[if_neg hji,if_neg hji',if_neg hji',if_neg hji]
         exact hr1 j j' (hlist' j hj hji) (hlist' j' hj' hji') hne
      ·unfold upd
       by_cases hji:j=i
       ·subst hji
        simp only[if_pos];exact⟨hb.size,hbw.size,Nat.le_refl _⟩
       ·simp only[if_neg hji]
        have:=hr2 j (hlist' j hj hji);exact⟨this.1,this.2.1,Nat.le_trans this.2.2 hbw.size⟩
      ·have hji:j≠i:=by
        rintro rfl;exact hk3' ((hLk j (hLb j hj)).1 hj)
       rw[getD_set_ne false (Ne.symm hji)];exact hnl j hj
     have hrun:=hst w hb (fun j v g ha hvj hgj=>by
       have hji:j<i:=by have:=(List.getElem?_eq_some_iff.1 hvj).1;simpa using this
       rw[List.getElem?_map,List.getElem?_range hji] at hvj
       simp at hvj
       subst hvj
       rw[List.getElem?_take_of_lt hji] at hgj
       exact⟨lo j,hi j,hg j g (hanc j ha) hgj⟩)
      (fun a' w'=>∃ v,a'=(putL ops a0 vals (fun _=>true) i).put o.dst v∧(Below w.heap.size w w'∧f.at_ v w.heap.size w'.heap.size w')) (fun _ _ _=>False)
      (show Shut _ from fun v a' w' e h1 h2=>⟨v,e,h1,h2⟩)
     refine wpOpL_step ho fun K' hK => ?_
     rw[hwa]
     split
     ·rename_i hw
      rw[if_pos hw] at hrun;refine Oper.wp_mono (fun a' w' ⟨v,e,h1,h2⟩ => ?_) (wp_swap (Q:=Q) hex hsz hrun);rw[e];exact hK _ _ (next v w' h1 h2)
     ·rename_i hw
      rw[if_neg hw] at hrun;obtain⟨v,e,h1,h2⟩:=hrun;rw[actput_same hsz _ _ _ e];exact hK _ _ (next v w h1 h2)
def lateIdx(ks:List Nat):List Nat:=(List.range ks.length).filter fun i=>ks.getD i 0 == 3
def jsB(ops:Array Oper)(Js:List (List Nat)):Bool:=(List.range ops.size).all fun i=>(Js.getD i []).all fun j=>((ops[i]?).map (depB · j)).getD false && decide (j<i)
theorem fits_of{ks:List Nat}{Js:List (List Nat)}{Fs:List Fk}(hks:Fs.map Fk.kind=ks)(hjs:Fs.map Fk.js=Js)(hlb:lateB ops ks=true)(hjb:jsB ops Js=true):Fits ops Fs:=by
 refine⟨fun j o f ho hf hk=>(lateB_spec hlb ho (by rw[←hks,List.getD_eq_getElem?_getD,List.getElem?_map,hf];exact hk)).1,fun i o f ho hf j hj => ?_⟩;have hi:i<ops.size:=(Array.getElem?_eq_some_iff.1 ho).1;have h1:=List.all_eq_true.1 hjb i (List.mem_range.2 hi);have hJ:Js.getD i []=f.js:=by rw[←hjs,List.getD_eq_getElem?_getD,List.getElem?_map,hf];rfl
 rw[hJ] at h1;have h2:=List.all_eq_true.1 h1 j hj;rw[ho] at h2;simpa using h2
theorem chain2_start{a:Act}{w:World}(ks:List Nat)(Js:List (List Nat))(Fs:List Fk)(hks:Fs.map Fk.kind=ks)(hjs:Fs.map Fk.js=Js)(hsel:Region.noSelect ops=true)(hf:freeB ops=true)(hlb:lateB ops ks=true)(hjb:jsB ops Js=true)(hz:ks.length=ops.size)(hL:∀ f ∈ Fs,f.lasts)
  (h0:∀ W0,Below w.heap.size w W0→W0.heap.size=w.heap.size→Chain2 P ops W0 Q (lateIdx ks) 0 ops.toList Fs [] [] a):wpAnyL P ops Q ops.size (Array.replicate ops.size false) a w.drew:=by
 have h:=h0 w.drew (Below.refl _ _).drew rfl;have hF:=fits_of hks hjs hlb hjb;have hlen:ops.size=Fs.length:=by simpa using chain2_len _ _ _ _ _ _ h
 have hLk:∀ j,j<ops.size→(j ∈ lateIdx ks↔ks.getD j 0=3):=fun j hj=>by
  unfold lateIdx;rw[List.mem_filter,List.mem_range];simp only[beq_iff_eq];exact⟨fun h=>h.2,fun h=>⟨by omega,h⟩⟩
 obtain⟨vals,hgood,_⟩:=complete (Fs:=Fs) (fun i f hf j hj=>(hF.js i _ f (Array.getElem?_eq_getElem (by have:=(List.getElem?_eq_some_iff.1 hf).1;omega)) hf j hj).2) (fun _=>undef) (fun _=>false) (fun j f hj=>by cases hj) (fun j f hj=>by cases hj);have:=chain2_any hsel hf hks hlb hF hLk ((List.nodup_range).filter _) (fun j hj=>by have:=(List.mem_filter.1 hj).1;rw[List.mem_range] at this;omega) hL h ops.size (Array.replicate ops.size false)
  vals w.drew (by simp)
  (by
   rw[cntL_congr (l:=fun j=>(Array.replicate ops.size false).getD j false) (l':=fun _=>false) ops.size (fun j _=>rep_false _ _)]
   rw[cntL_none];exact Nat.le_refl _)
  hgood (fun j o _ hj=>by rw[rep_false] at hj;cases hj)
  (.inl ⟨fun _=>0,fun _=>0,Below.refl _ _,fun j g hj=>by (rw[rep_false] at hj;cases hj),fun i j hj=>by (rw[rep_false] at hj;cases hj),fun j hj=>by (rw[rep_false] at hj;cases hj),fun j _=>rep_false _ _⟩)
 rw[show putL ops a vals (fun j=>(Array.replicate ops.size false).getD j false) ops.size=a from ?_] at this
 ·exact this
 ·have:∀ n,putL ops a vals (fun j=>(Array.replicate ops.size false).getD j false) n=a:=by
   intro n
   induction n with
   | zero=>rfl
   | succ n ih=>unfold putL;rw[if_neg (by rw[rep_false];simp),ih]
  exact this _
theorem wp_region_chain2{id:Nat}{a:Act}{w:World}(ks:List Nat)(Js:List (List Nat))(Fs:List Fk)(hks:Fs.map Fk.kind=ks)(hjs:Fs.map Fk.js=Js)(hm:P.follows .mixedOrders=true)(hsel:Region.noSelect ops=true)(hf:freeB ops=true)(hlb:lateB ops ks=true)(hjb:jsB ops Js=true)(hz:ks.length=ops.size)(hL:∀ f ∈ Fs,f.lasts)
  (h0:∀ W0,Below w.heap.size w W0→W0.heap.size=w.heap.size→Chain2 P ops W0 Q (lateIdx ks) 0 ops.toList Fs [] [] a):(Code.region id ops true).wp P Q a w:=
 wp_region_any hm (wpAnyL_any _ _ _ _ (chain2_start ks Js Fs hks hjs hsel hf hlb hjb hz hL h0))
section
variable {i : Nat} {o : Oper} {os : List Oper} {fs : List Fk} {vs : List Value} {gs : List Fk} {a : Act}
theorem chn_is{u:Value}(h1:StpP P ops i o u vs gs a)(h2:Chain2 P ops W0 Q L (i+1) os fs (vs++[u]) (gs++[.is u]) (a.put o.dst u)):Chain2 P ops W0 Q L i (o::os) (.is u::fs) vs gs a:=⟨h1,h2⟩
theorem chn_kn{u:Value}(h1:Stp2 P ops W0 i o (.kn u) vs gs a)(h2:Chain2 P ops W0 Q L (i+1) os fs (vs++[u]) (gs++[.kn u]) (a.put o.dst u)):Chain2 P ops W0 Q L i (o::os) (.kn u::fs) vs gs a:=⟨h1,h2⟩
theorem chn_has{ψ:Value→Nat→Nat→World→Prop}(h1:Stp2 P ops W0 i o (.has ψ) vs gs a)(h2:∀ v,Chain2 P ops W0 Q L (i+1) os fs (vs++[v]) (gs++[.has ψ]) (a.put o.dst v)):Chain2 P ops W0 Q L i (o::os) (.has ψ::fs) vs gs a:=⟨h1,h2⟩
theorem chn_fn{js:List Nat}{F:List Value→Value}(u:Value)(hu:F (js.map fun j=>vs.getD j undef)=u)(h1:StpP P ops i o u vs gs a)(h2:Chain2 P ops W0 Q L (i+1) os fs (vs++[u]) (gs++[.fn js F]) (a.put o.dst u)):Chain2 P ops W0 Q L i (o::os) (.fn js F::fs) vs gs a:=by
 subst hu;exact⟨h1,h2⟩
theorem chn_late(h2:Chain2 P ops W0 Q L (i+1) os fs (vs++[undef]) (gs++[.late]) a):Chain2 P ops W0 Q L i (o::os) (.late::fs) vs gs a:=h2
theorem stp_pure{u:Value}(hw:Region.wanted o (yielded ops a.tmps)=true)(h:∀ w,(execOp a.eval o).run P w=.ok (.value u) w):StpP P ops i o u vs gs a:=.inl ⟨hw,fun _=>h⟩
theorem stp_pureK{u:Value}(hw:Region.wanted o (yielded ops a.tmps)=true)(h:∀ w0,Known ops i vs gs w0→∀ w,(execOp a.eval o).run P w=.ok (.value u) w):StpP P ops i o u vs gs a:=.inl ⟨hw,fun ⟨w0,h0⟩=>h w0 h0⟩
theorem stp_un(hw:Region.wanted o (yielded ops a.tmps)=false):StpP P ops i o undef vs gs a:=.inr ⟨hw,rfl⟩
theorem stp_take{u:Value}(hw:Region.wanted o (yielded ops a.tmps)=true)
  (h:∀ w,Below W0.heap.size W0 w→Known ops i vs gs w→(execOp a.eval o).run P w=.ok (.value u) w):Stp2 P ops W0 i o (.kn u) vs gs a:=by
 intro w hb hd K Q' hK;rw[if_pos hw];unfold Oper.wp;rw[h w hb hd];exact hK.out _ _ _ rfl (Below.refl _ _) rfl
end
theorem lts_nil:∀ f ∈ ([]:List Fk),f.lasts:=fun _ h=>by cases h
theorem lts_of{f:Fk}{fs:List Fk}(h1:f.lasts)(h:∀ g ∈ fs,g.lasts):∀ g ∈ (f::fs),g.lasts:=fun g hg=>by
 rcases List.mem_cons.1 hg with rfl | hg
 ·exact h1
 ·exact h g hg
theorem lts_is{u:Value}{fs:List Fk}(h:∀ g ∈ fs,g.lasts):∀ g ∈ (Fk.is u::fs),g.lasts:=lts_of trivial h
theorem lts_kn{u:Value}{fs:List Fk}(h:∀ g ∈ fs,g.lasts):∀ g ∈ (Fk.kn u::fs),g.lasts:=lts_of trivial h
theorem lts_fn{js:List Nat}{F:List Value→Value}{fs:List Fk}(h:∀ g ∈ fs,g.lasts):∀ g ∈ (Fk.fn js F::fs),g.lasts:=lts_of trivial h
theorem lts_late{fs:List Fk}(h:∀ g ∈ fs,g.lasts):∀ g ∈ (Fk.late::fs),g.lasts:=lts_of trivial h
theorem lts_has{ψ:Value→Nat→Nat→World→Prop}{fs:List Fk}(h1:(Fk.has ψ).lasts)(h:∀ g ∈ fs,g.lasts):∀ g ∈ (Fk.has ψ::fs),g.lasts:=lts_of h1 h
theorem chn_end{i:Nat}{vs:List Value}{gs:List Fk}{a:Act}(h:∀ w lo hi,Below W0.heap.size W0 w→(∀ (j:Nat) (v:Value) (g:Fk),vs[j]? = some v→gs[j]? = some g→g.at_ v (lo j) (hi j) w)→Ranges W0 gs lo hi w→LateAny P ops Q L.length L a w):Chain2 P ops W0 Q L i [] [] vs gs a:=h
theorem late_none{a:Act}{w:World}(h:Q .normal a w):LateAny P ops Q (List.length ([]:List Nat)) [] a w:=h
theorem late_one{s:Nat}{o:Oper}{a:Act}{w:World}(ho:ops[s]? = some o)(h:∀ (K:Act→World→Prop) (Q':Exit→Act→World→Prop),Shut (∀ w',Q .normal a w'→K a w')→Oper.wp P o a w K Q'):LateAny P ops Q (List.length [s]) [s] a w:=by
 intro s' hs' _;obtain rfl:s'=s:=by simpa using hs'
 exact⟨o,ho,h _ _ (show Shut _ from fun w' hq=>⟨rfl,hq⟩)⟩
theorem late_cons{s:Nat}{rest:List Nat}{o:Oper}{a:Act}{w:World}(hs:(rest.all fun t=>ancB ops t s)=true)(ho:ops[s]? = some o)
  (h:∀ (K:Act→World→Prop) (Q':Exit→Act→World→Prop),Shut (∀ w',LateAny P ops Q rest.length rest a w'→K a w')→Oper.wp P o a w K Q'):LateAny P ops Q (List.length (s::rest)) (s::rest) a w:=by
 intro s' hs' hn
 by_cases e:s'=s
 ·subst e
  refine⟨o,ho,h _ _ (show Shut _ from fun w' hq=>⟨rfl,?_⟩)⟩;rw[List.erase_cons_head];exact hq
 ·have hr:s' ∈ rest:=by rcases List.mem_cons.1 hs' with h1 | h1;exact absurd h1 e;exact h1
  have h1:=List.all_eq_true.1 hs s' hr;rw[hn s List.mem_cons_self] at h1
  cases h1
end
def tupAt(v:Value)(i:Nat):Value:=match v with
 | .tuple xs=>xs.getD i undef
 | _=>undef
def fst_(l:List Value):Value:=l.getD 0 undef
end Go.Proofs.YthijbipidbjpfaaGreatDoor
