import Derived.Test.YthijbipidbjpfaaGreatDoorZP05
import Derived.Test.YthijbipidbjpfaaGreatDoorZP03
import Derived.Test.YthijbipidbjpfaaGreatDoorZP00
set_option linter.unusedSimpArgs false
set_option linter.unusedVariables false
set_option maxRecDepth 100000
set_option maxHeartbeats 8000000
namespace Go.Proofs.YthijbipidbjpfaaGreatDoor
open Go.RowKit Go.Maps
theorem zpt{p:Prop}(h:p:=by (simp only[Act.put,List.setIfInBounds_toArray,List.set_cons_zero,List.set_cons_succ,List.nil_append,List.cons_append,Nat.reduceAdd])):p:=h
theorem zgs{p:Prop}(h:p:=by clear hd;go_simp;first | done | with_reducible rfl):p:=h
theorem zsr{p:Prop}(h:p:=by clear hd;go_simp;first | done | rfl):p:=h
section
variable {P : Program} {ops : Array Oper} {Q : Exit → Act → World → Prop} {W0 : World} {L : List Nat} {i : Nat} {o : Oper} {os : List Oper} {fs : List Fk} {vs vs' : List Value} {gs gs' : List Fk} {a a' : Act}
theorem zrg{id:Nat}{w:World}(ks:List Nat)(Js:List (List Nat))(Fs:List Fk)(L:List Nat)(hL:∀ f ∈ Fs,f.lasts)
    (h0:∀ W0,Below w.heap.size w W0→W0.heap.size=w.heap.size→Chain2 P ops W0 Q L 0 ops.toList Fs [] [] a)
    (hks:Fs.map Fk.kind=ks:=by rfl) (hjs:Fs.map Fk.js=Js:=by rfl) (hm:P.follows .mixedOrders=true:=by kernel_rfl) (hsel:Region.noSelect ops=true:=by kernel_rfl) (hf:freeB ops=true:=by kernel_rfl) (hlb:lateB ops ks=true:=by kernel_rfl) (hjb:jsB ops Js=true:=by kernel_rfl) (hz:ks.length=ops.size:=by kernel_rfl) (hl:lateIdx ks=L:=by rfl):(Code.region id ops true).wp P Q a w:=
  wp_region_chain2 ks Js Fs hks hjs hm hsel hf hlb hjb hz hL (hl ▸ h0)
theorem zqP{u:Value}(h:∀ w,(execOp a.eval o).run P w=.ok (.value u) w)(h2:Chain2 P ops W0 Q L (i+1) os fs vs' gs' a')(hw:Region.wanted o (yielded ops a.tmps)=true:=by rfl)
    (hv:vs++[u]=vs':=by (first | (simp only[Act.put,List.setIfInBounds_toArray,List.set_cons_zero,List.set_cons_succ,List.nil_append,List.cons_append,Nat.reduceAdd];done) | (simp only[Act.put,List.setIfInBounds_toArray,List.set_cons_zero,List.set_cons_succ,List.nil_append,List.cons_append,Nat.reduceAdd];rfl) | rfl)) (hg:gs++[.is u]=gs':=by (first | (simp only[Act.put,List.setIfInBounds_toArray,List.set_cons_zero,List.set_cons_succ,List.nil_append,List.cons_append,Nat.reduceAdd];done) | (simp only[Act.put,List.setIfInBounds_toArray,List.set_cons_zero,List.set_cons_succ,List.nil_append,List.cons_append,Nat.reduceAdd];rfl) | rfl)) (ha:a.put o.dst u=a':=by (first | (simp only[Act.put,List.setIfInBounds_toArray,List.set_cons_zero,List.set_cons_succ,List.nil_append,List.cons_append,Nat.reduceAdd];done) | (simp only[Act.put,List.setIfInBounds_toArray,List.set_cons_zero,List.set_cons_succ,List.nil_append,List.cons_append,Nat.reduceAdd];rfl) | rfl)):Chain2 P ops W0 Q L i (o::os) (.is u::fs) vs gs a:=chn_is (stp_pure hw h) (by rw[hv,hg,ha];exact h2)
theorem zqp{u:Value}(h2:Chain2 P ops W0 Q L (i+1) os fs vs' gs' a')(hw:Region.wanted o (yielded ops a.tmps)=true:=by rfl)(h:∀ w,(execOp a.eval o).run P w=.ok (.value u) w:=by intro w;go_simp;first | done | with_reducible rfl)
    (hv:vs++[u]=vs':=by (first | (simp only[Act.put,List.setIfInBounds_toArray,List.set_cons_zero,List.set_cons_succ,List.nil_append,List.cons_append,Nat.reduceAdd];done) | (simp only[Act.put,List.setIfInBounds_toArray,List.set_cons_zero,List.set_cons_succ,List.nil_append,List.cons_append,Nat.reduceAdd];rfl) | rfl)) (hg:gs++[.is u]=gs':=by (first | (simp only[Act.put,List.setIfInBounds_toArray,List.set_cons_zero,List.set_cons_succ,List.nil_append,List.cons_append,Nat.reduceAdd];done) | (simp only[Act.put,List.setIfInBounds_toArray,List.set_cons_zero,List.set_cons_succ,List.nil_append,List.cons_append,Nat.reduceAdd];rfl) | rfl)) (ha:a.put o.dst u=a':=by (first | (simp only[Act.put,List.setIfInBounds_toArray,List.set_cons_zero,List.set_cons_succ,List.nil_append,List.cons_append,Nat.reduceAdd];done) | (simp only[Act.put,List.setIfInBounds_toArray,List.set_cons_zero,List.set_cons_succ,List.nil_append,List.cons_append,Nat.reduceAdd];rfl) | rfl)):Chain2 P ops W0 Q L i (o::os) (.is u::fs) vs gs a:=zqP h h2 hw hv hg ha
theorem zqu(h2:Chain2 P ops W0 Q L (i+1) os fs vs' gs' a')(hw:Region.wanted o (yielded ops a.tmps)=false:=by rfl)
    (hv:vs++[undef]=vs':=by (first | (simp only[Act.put,List.setIfInBounds_toArray,List.set_cons_zero,List.set_cons_succ,List.nil_append,List.cons_append,Nat.reduceAdd];done) | (simp only[Act.put,List.setIfInBounds_toArray,List.set_cons_zero,List.set_cons_succ,List.nil_append,List.cons_append,Nat.reduceAdd];rfl) | rfl)) (hg:gs++[.is undef]=gs':=by (first | (simp only[Act.put,List.setIfInBounds_toArray,List.set_cons_zero,List.set_cons_succ,List.nil_append,List.cons_append,Nat.reduceAdd];done) | (simp only[Act.put,List.setIfInBounds_toArray,List.set_cons_zero,List.set_cons_succ,List.nil_append,List.cons_append,Nat.reduceAdd];rfl) | rfl)) (ha:a.put o.dst undef=a':=by (first | (simp only[Act.put,List.setIfInBounds_toArray,List.set_cons_zero,List.set_cons_succ,List.nil_append,List.cons_append,Nat.reduceAdd];done) | (simp only[Act.put,List.setIfInBounds_toArray,List.set_cons_zero,List.set_cons_succ,List.nil_append,List.cons_append,Nat.reduceAdd];rfl) | rfl)):Chain2 P ops W0 Q L i (o::os) (.is undef::fs) vs gs a:=chn_is (stp_un hw) (by rw[hv,hg,ha];exact h2)
theorem zqF{js:List Nat}{F:List Value→Value}(u:Value)(h:∀ w0,Known ops i vs gs w0→∀ w,(execOp a.eval o).run P w=.ok (.value u) w)(h2:Chain2 P ops W0 Q L (i+1) os fs vs' gs' a')(hu:F (js.map fun j=>vs.getD j undef)=u:=by rfl)(hw:Region.wanted o (yielded ops a.tmps)=true:=by rfl)
    (hv:vs++[u]=vs':=by (first | (simp only[Act.put,List.setIfInBounds_toArray,List.set_cons_zero,List.set_cons_succ,List.nil_append,List.cons_append,Nat.reduceAdd];done) | (simp only[Act.put,List.setIfInBounds_toArray,List.set_cons_zero,List.set_cons_succ,List.nil_append,List.cons_append,Nat.reduceAdd];rfl) | rfl)) (hg:gs++[.fn js F]=gs':=by (first | (simp only[Act.put,List.setIfInBounds_toArray,List.set_cons_zero,List.set_cons_succ,List.nil_append,List.cons_append,Nat.reduceAdd];done) | (simp only[Act.put,List.setIfInBounds_toArray,List.set_cons_zero,List.set_cons_succ,List.nil_append,List.cons_append,Nat.reduceAdd];rfl) | rfl)) (ha:a.put o.dst u=a':=by (first | (simp only[Act.put,List.setIfInBounds_toArray,List.set_cons_zero,List.set_cons_succ,List.nil_append,List.cons_append,Nat.reduceAdd];done) | (simp only[Act.put,List.setIfInBounds_toArray,List.set_cons_zero,List.set_cons_succ,List.nil_append,List.cons_append,Nat.reduceAdd];rfl) | rfl)):Chain2 P ops W0 Q L i (o::os) (.fn js F::fs) vs gs a:=chn_fn u hu (stp_pureK hw h) (by rw[hv,hg,ha];exact h2)
theorem zqf{js:List Nat}{F:List Value→Value}(u:Value)(h2:Chain2 P ops W0 Q L (i+1) os fs vs' gs' a')(hu:F (js.map fun j=>vs.getD j undef)=u:=by rfl)(hw:Region.wanted o (yielded ops a.tmps)=true:=by rfl)(h:∀ w0,Known ops i vs gs w0→∀ w,(execOp a.eval o).run P w=.ok (.value u) w:=by intro w0 hd w;clear hd;go_simp;first | done | rfl)
    (hv:vs++[u]=vs':=by (first | (simp only[Act.put,List.setIfInBounds_toArray,List.set_cons_zero,List.set_cons_succ,List.nil_append,List.cons_append,Nat.reduceAdd];done) | (simp only[Act.put,List.setIfInBounds_toArray,List.set_cons_zero,List.set_cons_succ,List.nil_append,List.cons_append,Nat.reduceAdd];rfl) | rfl)) (hg:gs++[.fn js F]=gs':=by (first | (simp only[Act.put,List.setIfInBounds_toArray,List.set_cons_zero,List.set_cons_succ,List.nil_append,List.cons_append,Nat.reduceAdd];done) | (simp only[Act.put,List.setIfInBounds_toArray,List.set_cons_zero,List.set_cons_succ,List.nil_append,List.cons_append,Nat.reduceAdd];rfl) | rfl)) (ha:a.put o.dst u=a':=by (first | (simp only[Act.put,List.setIfInBounds_toArray,List.set_cons_zero,List.set_cons_succ,List.nil_append,List.cons_append,Nat.reduceAdd];done) | (simp only[Act.put,List.setIfInBounds_toArray,List.set_cons_zero,List.set_cons_succ,List.nil_append,List.cons_append,Nat.reduceAdd];rfl) | rfl)):Chain2 P ops W0 Q L i (o::os) (.fn js F::fs) vs gs a:=zqF u h h2 hu hw hv hg ha
theorem zqT{u:Value}(h:∀ w,Below W0.heap.size W0 w→Known ops i vs gs w→(execOp a.eval o).run P w=.ok (.value u) w)(h2:Chain2 P ops W0 Q L (i+1) os fs vs' gs' a')(hw:Region.wanted o (yielded ops a.tmps)=true:=by rfl)
    (hv:vs++[u]=vs':=by (first | (simp only[Act.put,List.setIfInBounds_toArray,List.set_cons_zero,List.set_cons_succ,List.nil_append,List.cons_append,Nat.reduceAdd];done) | (simp only[Act.put,List.setIfInBounds_toArray,List.set_cons_zero,List.set_cons_succ,List.nil_append,List.cons_append,Nat.reduceAdd];rfl) | rfl)) (hg:gs++[.kn u]=gs':=by (first | (simp only[Act.put,List.setIfInBounds_toArray,List.set_cons_zero,List.set_cons_succ,List.nil_append,List.cons_append,Nat.reduceAdd];done) | (simp only[Act.put,List.setIfInBounds_toArray,List.set_cons_zero,List.set_cons_succ,List.nil_append,List.cons_append,Nat.reduceAdd];rfl) | rfl)) (ha:a.put o.dst u=a':=by (first | (simp only[Act.put,List.setIfInBounds_toArray,List.set_cons_zero,List.set_cons_succ,List.nil_append,List.cons_append,Nat.reduceAdd];done) | (simp only[Act.put,List.setIfInBounds_toArray,List.set_cons_zero,List.set_cons_succ,List.nil_append,List.cons_append,Nat.reduceAdd];rfl) | rfl)):Chain2 P ops W0 Q L i (o::os) (.kn u::fs) vs gs a:=chn_kn (stp_take hw h) (by rw[hv,hg,ha];exact h2)
theorem zqc{u:Value}(h:Stp2 P ops W0 i o (.kn u) vs gs a)(h2:Chain2 P ops W0 Q L (i+1) os fs vs' gs' a')
    (hv:vs++[u]=vs':=by (first | (simp only[Act.put,List.setIfInBounds_toArray,List.set_cons_zero,List.set_cons_succ,List.nil_append,List.cons_append,Nat.reduceAdd];done) | (simp only[Act.put,List.setIfInBounds_toArray,List.set_cons_zero,List.set_cons_succ,List.nil_append,List.cons_append,Nat.reduceAdd];rfl) | rfl)) (hg:gs++[.kn u]=gs':=by (first | (simp only[Act.put,List.setIfInBounds_toArray,List.set_cons_zero,List.set_cons_succ,List.nil_append,List.cons_append,Nat.reduceAdd];done) | (simp only[Act.put,List.setIfInBounds_toArray,List.set_cons_zero,List.set_cons_succ,List.nil_append,List.cons_append,Nat.reduceAdd];rfl) | rfl)) (ha:a.put o.dst u=a':=by (first | (simp only[Act.put,List.setIfInBounds_toArray,List.set_cons_zero,List.set_cons_succ,List.nil_append,List.cons_append,Nat.reduceAdd];done) | (simp only[Act.put,List.setIfInBounds_toArray,List.set_cons_zero,List.set_cons_succ,List.nil_append,List.cons_append,Nat.reduceAdd];rfl) | rfl)):Chain2 P ops W0 Q L i (o::os) (.kn u::fs) vs gs a:=chn_kn h (by rw[hv,hg,ha];exact h2)
theorem zqh{ψ:Value→Nat→Nat→World→Prop}{vs':Value→List Value}{a':Value→Act}(h:Stp2 P ops W0 i o (.has ψ) vs gs a)(h2:∀ v,Chain2 P ops W0 Q L (i+1) os fs (vs' v) gs' (a' v))
    (hv:∀ v,vs++[v]=vs' v:=by intro v;(first | (simp only[Act.put,List.setIfInBounds_toArray,List.set_cons_zero,List.set_cons_succ,List.nil_append,List.cons_append,Nat.reduceAdd];done) | (simp only[Act.put,List.setIfInBounds_toArray,List.set_cons_zero,List.set_cons_succ,List.nil_append,List.cons_append,Nat.reduceAdd];rfl) | rfl)) (hg:gs++[.has ψ]=gs':=by (first | (simp only[Act.put,List.setIfInBounds_toArray,List.set_cons_zero,List.set_cons_succ,List.nil_append,List.cons_append,Nat.reduceAdd];done) | (simp only[Act.put,List.setIfInBounds_toArray,List.set_cons_zero,List.set_cons_succ,List.nil_append,List.cons_append,Nat.reduceAdd];rfl) | rfl)) (ha:∀ v,a.put o.dst v=a' v:=by intro v;(first | (simp only[Act.put,List.setIfInBounds_toArray,List.set_cons_zero,List.set_cons_succ,List.nil_append,List.cons_append,Nat.reduceAdd];done) | (simp only[Act.put,List.setIfInBounds_toArray,List.set_cons_zero,List.set_cons_succ,List.nil_append,List.cons_append,Nat.reduceAdd];rfl) | rfl)):Chain2 P ops W0 Q L i (o::os) (.has ψ::fs) vs gs a:=chn_has h fun v=>by rw[hv,hg,ha];exact h2 v
theorem zql(h2:Chain2 P ops W0 Q L (i+1) os fs vs' gs' a)(hv:vs++[undef]=vs':=by (first | (simp only[Act.put,List.setIfInBounds_toArray,List.set_cons_zero,List.set_cons_succ,List.nil_append,List.cons_append,Nat.reduceAdd];done) | (simp only[Act.put,List.setIfInBounds_toArray,List.set_cons_zero,List.set_cons_succ,List.nil_append,List.cons_append,Nat.reduceAdd];rfl) | rfl))(hg:gs++[.late]=gs':=by (first | (simp only[Act.put,List.setIfInBounds_toArray,List.set_cons_zero,List.set_cons_succ,List.nil_append,List.cons_append,Nat.reduceAdd];done) | (simp only[Act.put,List.setIfInBounds_toArray,List.set_cons_zero,List.set_cons_succ,List.nil_append,List.cons_append,Nat.reduceAdd];rfl) | rfl)):Chain2 P ops W0 Q L i (o::os) (.late::fs) vs gs a:=chn_late (by rw[hv,hg];exact h2)
end
section
variable {P : Program} {ops : Array Oper} {Q : Exit → Act → World → Prop} {md : Region.Mode} {S : World → Prop} {fuel : Nat} {listed listed' : Array Bool} {a a' : Act} {w : World} {o : Oper} {v : Value}
theorem zhV(i:Nat)(v:Value)(hy:∀ w,S w→(execOp a.eval o).run P w=.ok (.value v) w)(h:wpAnyH P md ops Q S fuel listed' a' w)(hi:ops[i]? = some o:=by (simp only[List.getElem?_toArray,List.getElem?_cons_succ,List.getElem?_cons_zero];rfl))(hs:Region.noSelect ops=true:=by kernel_rfl)(hf:Region.free md ops listed i=true:=by kernel_rfl)(hr:(Region.ready md ops listed).contains i=true:=by kernel_rfl)
    (hQ:∀ c a w,Q (.panic c) (a.put o.dst v) w→Q (.panic c) a w:=by exact fun _ _ _ h=>h) (hw:Region.wanted o (yielded ops a.tmps)=true:=by rfl) (hS:S w:=by assumption) (hl:listed.setIfInBounds i true=listed':=by (first | (simp only[Act.put,List.setIfInBounds_toArray,List.set_cons_zero,List.set_cons_succ];done) | (simp only[Act.put,List.setIfInBounds_toArray,List.set_cons_zero,List.set_cons_succ];rfl) | rfl)) (ha:a.put o.dst v=a':=by (first | (simp only[Act.put,List.setIfInBounds_toArray,List.set_cons_zero,List.set_cons_succ];done) | (simp only[Act.put,List.setIfInBounds_toArray,List.set_cons_zero,List.set_cons_succ];rfl) | rfl)):wpAnyH P md ops Q S (fuel+1) listed a w:=wpAnyH_take hi hs hf hr hQ (.inl ⟨hw,hy⟩) hS (by rw[hl,ha];exact h)
theorem zht(i:Nat)(h:wpAnyH P md ops Q S fuel listed' a' w)(hi:ops[i]? = some o:=by (simp only[List.getElem?_toArray,List.getElem?_cons_succ,List.getElem?_cons_zero];rfl))(hs:Region.noSelect ops=true:=by kernel_rfl)(hf:Region.free md ops listed i=true:=by kernel_rfl)(hr:(Region.ready md ops listed).contains i=true:=by kernel_rfl)
    (hQ:∀ c a w,Q (.panic c) (a.put o.dst v) w→Q (.panic c) a w:=by exact fun _ _ _ h=>h) (hy:YieldsIf P ops S o v a:=by (refine Or.inl ⟨by rfl,?_⟩;intro w hSw;(try dsimp only at hSw);go_simp;first | done | with_reducible rfl)) (hS:S w:=by assumption) (hl:listed.setIfInBounds i true=listed':=by (first | (simp only[Act.put,List.setIfInBounds_toArray,List.set_cons_zero,List.set_cons_succ];done) | (simp only[Act.put,List.setIfInBounds_toArray,List.set_cons_zero,List.set_cons_succ];rfl) | rfl)) (ha:a.put o.dst v=a':=by (first | (simp only[Act.put,List.setIfInBounds_toArray,List.set_cons_zero,List.set_cons_succ];done) | (simp only[Act.put,List.setIfInBounds_toArray,List.set_cons_zero,List.set_cons_succ];rfl) | rfl)):wpAnyH P md ops Q S (fuel+1) listed a w:=wpAnyH_take hi hs hf hr hQ hy hS (by rw[hl,ha];exact h)
theorem zhu(i:Nat)(h:wpAnyH P md ops Q S fuel listed' a' w)(hi:ops[i]? = some o:=by (simp only[List.getElem?_toArray,List.getElem?_cons_succ,List.getElem?_cons_zero];rfl))(hs:Region.noSelect ops=true:=by kernel_rfl)(hf:Region.free md ops listed i=true:=by kernel_rfl)(hr:(Region.ready md ops listed).contains i=true:=by kernel_rfl)
    (hQ:∀ c a w,Q (.panic c) (a.put o.dst undef) w→Q (.panic c) a w:=by exact fun _ _ _ h=>h) (hy:YieldsIf P ops S o undef a:=by exact Or.inr ⟨by rfl,rfl⟩) (hS:S w:=by assumption) (hl:listed.setIfInBounds i true=listed':=by (first | (simp only[Act.put,List.setIfInBounds_toArray,List.set_cons_zero,List.set_cons_succ];done) | (simp only[Act.put,List.setIfInBounds_toArray,List.set_cons_zero,List.set_cons_succ];rfl) | rfl)) (ha:a.put o.dst undef=a':=by (first | (simp only[Act.put,List.setIfInBounds_toArray,List.set_cons_zero,List.set_cons_succ];done) | (simp only[Act.put,List.setIfInBounds_toArray,List.set_cons_zero,List.set_cons_succ];rfl) | rfl)):wpAnyH P md ops Q S (fuel+1) listed a w:=wpAnyH_take hi hs hf hr hQ hy hS (by rw[hl,ha];exact h)
/-- What is to be shown of an operation that is run. -/
def ZR(P:Program)(md:Region.Mode)(ops:Array Oper)(Q:Exit→Act→World→Prop)(S:World→Prop)(fuel:Nat)(listed:Array Bool)(a:Act)(w:World)(o:Oper)(i:Nat):Prop:=
  ∀ K':Act→World→Prop,Shut (∀ a w,S w→(S w→wpAnyH P md ops Q S fuel (listed.setIfInBounds i true) a w)→K' a w)→if Region.wanted o (yielded ops a.tmps)=true then Oper.wp P o a w K' Q else K' (a.put o.dst undef) w
theorem zhr(i:Nat)(h:ZR P md ops Q S fuel listed a w o i)(ho:ops[i]? = some o:=by (simp only[List.getElem?_toArray,List.getElem?_cons_succ,List.getElem?_cons_zero];rfl))(hr:Region.ready md ops listed=[i]:=by kernel_rfl):wpAnyH P md ops Q S (fuel+1) listed a w:=wpAnyH_ready hr (by simp) (AllReadyH.cons ho h AllReadyH.nil)
theorem zhr2{o':Oper}(i j:Nat)(h:ZR P md ops Q S fuel listed a w o i)(h':ZR P md ops Q S fuel listed a w o' j)(ho:ops[i]? = some o:=by (simp only[List.getElem?_toArray,List.getElem?_cons_succ,List.getElem?_cons_zero];rfl))(ho':ops[j]? = some o':=by (simp only[List.getElem?_toArray,List.getElem?_cons_succ,List.getElem?_cons_zero];rfl))(hr:Region.ready md ops listed=[i,j]:=by kernel_rfl):wpAnyH P md ops Q S (fuel+1) listed a w:=wpAnyH_ready hr (by simp) (AllReadyH.cons ho h (AllReadyH.cons ho' h' AllReadyH.nil))
end
end Go.Proofs.YthijbipidbjpfaaGreatDoor
namespace Go.Proofs.YthijbipidbjpfaaGreatDoor
open Go.RowKit Go.Maps
open Go.Conc
def TakePost(R:Pol × Int × Int)(w:World)(e:Ending)(w':World):Prop:=∃ A c,e=.returned (.tuple #[poV A c R.1,.int .i64 R.2.1,.int .i64 R.2.2])∧OwnE intE w' w.heap.size A c R.1.free∧Below w.heap.size w w'
theorem pTake_any(A:Option Addr)(c:Nat)(p:Pol)(w:World)(ha:SR intE w A p.free)(la:p.free.length≤1000) :
  Calls Tryz.prog 164 #[poV A c p] w (TakePost (tkP p) w):=by
 obtain⟨⟨z,n⟩,hz⟩:∃ x,chkP p=x:=⟨_,rfl⟩;have HA:=Lib.hid ha;clear ha
 by_cases z0:z=0
 ·subst z0
  have HZ:=Lib.hid hz;obtain⟨size,l⟩:=p;dsimp only at *;have hll:l.length≤32:=(chkP_ok (p:=⟨size,l⟩) (by rw[hz])).len
  cases l with
  | nil=>
   have HR:Hid (tkP ⟨size,[]⟩=(.zero,0,5)):=by show _=_;unfold tkP;rw[hz];rfl
   clear hz;unfold poV
   (refine calls_of_wpN Tryz.func164 rfl ?_;simp only[Tryz.ntmps164,List.size_toArray,List.length_cons,List.length_nil,Nat.reduceAdd,Nat.reduceSub,Array.replicate_succ,Array.replicate_zero,List.push_toArray,List.append_toArray,List.nil_append,List.cons_append])
   (refine WpN.seq_k ?_;intro K hK;go_wp2)
   refine WpN.seq_k ?_;intro K hK;go_wp2_with fail;refine (pCheck_any A c ⟨size,[]⟩ _ (HA.out.ext zbl) la HZ.out).mono ?_;rintro e w1 ⟨rfl,hb1⟩;have kT:Blk w1 (w.heap.size+1) 33 #[.int .i64 0,.slice none 0 0]:=(by refine Blk.below_ ?_ hb1 ?_ <;> first | exact Blk.new_ (by simp) rfl | simp);obtain⟨q0,q1⟩:=zc2 kT;obtain⟨q2,q3,-⟩:=zf kT;have zT:w.heap.size+1<w1.heap.size:=Nat.lt_of_lt_of_le (by simp) hb1.size
   go_wp2
   have kB:Blk w1 w.heap.size 33 #[.int .i64 size,.slice A 0 c]:=Blk.below_ (Blk.alloc_ (Blk.new_ rfl rfl) _) hb1 (by simp;omega);obtain⟨b0,b1⟩:=zc2 kB;refine WpN.seq_k ?_;intro K hK;go_wp2_with fail;refine (ready_any A c [] size _ Sl.nil (by simp)).mono ?_;rintro e w2 ⟨C,rfl,hC,hch,hb2⟩;have kT2:Blk w2 (w.heap.size+1) 33 #[.int .i64 0,.slice none 0 0]:=kT.below_ hb2 zT;clear q0 q1 q2 q3;obtain⟨q0,q1⟩:=zc2 kT2;obtain⟨q2,q3,-⟩:=zf kT2
   go_wp2
   refine WpN.seq_k ?_;intro K hK
   go_wp2
   refine WpN.seq ?_;refine WpN.region ?_;simp only[List.size_toArray,List.length_cons,List.length_nil,Nat.reduceAdd,Nat.zero_add,List.range,List.range.loop];refine OpsN.none (ch:=C) (z:=.int .i64 0) rfl rfl (by simp[go_sem,execOp,rcase,Act.eval]) hch ?_;refine OpsN.val (v:=.int .i64 (-1)) rfl rfl (by simp[go_sem,execOp,Act.eval,Act.put]) ?_;refine OpsN.val (v:=.bool false) rfl rfl (by simp[go_sem,execOp,Act.eval,Act.put]) ?_;refine OpsN.of ?_;refine (show WpN _ _ _ _ _ from ?_);simp only[Act.put];refine WpN.of ?_
   go_wp2
   obtain⟨W,hW⟩:∃ W,(w2.setCell ⟨w.heap.size+1,0,none⟩ (.int .i64 0)).setCell ⟨w.heap.size+1,1,none⟩ (.slice none 0 0)=W:=⟨_,rfl⟩;have kW:Blk W (w.heap.size+1) 33 #[.int .i64 0,.slice none 0 0]:=by rw[←hW];exact(kT2.set_ 0 _).set_ 1 _
   have bW:Below w.heap.size w W:=by rw[←hW];exact zbl
   rw[hW]
   skip
   clear hW q0 q1;refine bodyPost_ret (by simp[results,Tryz.results164,go_sem,zc2 kW] <;> rfl) rfl ?_;unfold TakePost;rw[HR.out];exact⟨none,0,rfl,OwnE.nil,bW⟩
  | cons d l=>
   have HR:Hid (tkP ⟨size,d::l⟩=(⟨size,l⟩,d,0)):=by show _=_;unfold tkP;rw[hz];rfl
   clear hz;unfold poV
   (refine calls_of_wpN Tryz.func164 rfl ?_;simp only[Tryz.ntmps164,List.size_toArray,List.length_cons,List.length_nil,Nat.reduceAdd,Nat.reduceSub,Array.replicate_succ,Array.replicate_zero,List.push_toArray,List.append_toArray,List.nil_append,List.cons_append])
   (refine WpN.seq_k ?_;intro K hK;go_wp2)
   refine WpN.seq_k ?_;intro K hK;go_wp2_with fail;refine (pCheck_any A c ⟨size,d::l⟩ _ (HA.out.ext zbl) la HZ.out).mono ?_;rintro e w1 ⟨rfl,hb1⟩;have kT:Blk w1 (w.heap.size+1) 33 #[.int .i64 0,.slice none 0 0]:=(by refine Blk.below_ ?_ hb1 ?_ <;> first | exact Blk.new_ (by simp) rfl | simp);obtain⟨q0,q1⟩:=zc2 kT;obtain⟨q2,q3,-⟩:=zf kT;have zT:w.heap.size+1<w1.heap.size:=Nat.lt_of_lt_of_le (by simp) hb1.size
   go_wp2
   have kB:Blk w1 w.heap.size 33 #[.int .i64 size,.slice A (l.length+1) c]:=Blk.below_ (Blk.alloc_ (Blk.new_ rfl rfl) _) hb1 (by simp;omega);obtain⟨b0,b1⟩:=zc2 kB;refine WpN.seq_k ?_;intro K hK;go_wp2_with fail;refine (ready_any A c (d::l) size _ ((HA.out.sl).ext zbl) hll).mono ?_;rintro e w2 ⟨C,rfl,hC,hch,hb2⟩;have kB2:Blk w2 w.heap.size 33 #[.int .i64 size,.slice A (l.length+1) c]:=kB.below_ hb2 (by omega);have bC:w1.heap.size≤C:=hC;have kT2:Blk w2 (w.heap.size+1) 33 #[.int .i64 0,.slice none 0 0]:=kT.below_ hb2 zT;clear q0 q1 q2 q3;obtain⟨q0,q1⟩:=zc2 kT2;obtain⟨q2,q3,-⟩:=zf kT2
   go_wp2
   refine WpN.seq_k ?_;intro K hK
   go_wp2
   refine WpN.seq ?_;refine WpN.region ?_;simp only[List.size_toArray,List.length_cons,List.length_nil,Nat.reduceAdd,Nat.zero_add,List.range,List.range.loop];have hCl:C<w2.heap.size:=(Array.getElem?_eq_some_iff.1 hch).1;have e0:((d::l).map (Value.int .i64)).toArray=(Value.int .i64 d::l.map (Value.int .i64)).toArray:=rfl;rw[e0] at hch;refine OpsN.takeL (ch:=C) (z:=.int .i64 0) rfl rfl (by simp[go_sem,execOp,rcase,Act.eval]) hch ?_;refine OpsN.val (v:=.int .i64 0) rfl rfl (by simp[go_sem,execOp,Act.eval,Act.put]) ?_;refine OpsN.val (v:=.bool true) rfl rfl (by simp[go_sem,execOp,Act.eval,Act.put]) ?_;refine OpsN.of ?_;refine (show WpN _ _ _ _ _ from ?_);simp only[Act.put];refine WpN.of ?_;obtain⟨V,hV⟩:∃ V,w2.setChan C 32 (l.map (Value.int .i64)).toArray false (d::l).length (0+1) false=V:=⟨_,rfl⟩;have hchV:ChanAt V C l:=⟨_,_,by rw[←hV];exact heap_setChan _ _ _ _ _ _ _ _ hCl⟩;have bV:Below w1.heap.size w2 V:=by rw[←hV];exact below_setChan (Below.refl _ _) hC _ _ _ _ _ _
   have kBV:=kB2.below_ bV (by omega);have kTV:=kT2.below_ bV zT;have zV:=bV.size;rw[hV];clear hV hch q0 q1 q2 q3 b0 b1;have hl3:l.length≤32:=by simp at hll;omega
   go_wp2_with fail;refine wp_region_held_drew (S:=(fun (wx:World)=>wx.cell? ⟨w.heap.size,0,none⟩=some (.int .i64 size))) (by kernel_rfl) ?_ (fun hHeld => ?_)
   ·simpa using kBV.cell_ 0
   refine zht 0 ?_;refine zht 1 ?_;refine zht 2 ?_;refine zht 5 ?_;refine zhr 3 (fun K hK => ?_);go_simp;refine (rest_any C w1.heap.size l V.drew hchV hl3 hC).mono ?_;rintro e w3 ⟨A3,c3,rfl,hc3,hb3⟩;have kT3:=kTV.drew_.below_ hb3 zT;have kB3:=kBV.drew_.below_ hb3 (by omega);obtain⟨q0,q1⟩:=zc2 kT3;obtain⟨q2,q3,-⟩:=zf kT3
   refine hK.out _ _ (by first | (simpa using kB3.cell_ 0) | (simpa using ((kB3.far_ (by simp) _).far_ (by simp) _).cell_ 0)) fun hHeld => ?_
   clear hK K;(try simp only[Act.put,zy0,zy1,zy2]);refine zht 4 ?_;refine zhr 6 (fun K hK => ?_);go_simp
   refine hK.out _ _ (by first | (simpa using kB3.cell_ 0) | (simpa using ((kB3.far_ (by simp) _).far_ (by simp) _).cell_ 0)) fun hHeld => ?_
   clear hK K;(try simp only[Act.put,zy0,zy1,zy2]);refine zht 7 ?_;refine zht 8 ?_;refine wpAnyH_done (by kernel_rfl) ?_ _
   go_wp2
   have z1:w.heap.size≤w1.heap.size:=by omega
   have b3:Below w.heap.size w w3:=by
    have d1:Below w.heap.size w w1:=by refine Below.trans ?_ (hb1.mono (by simp;omega));exact zbl
    exact(((d1.trans (hb2.mono z1)).trans (bV.mono z1)).drew).trans (hb3.mono z1)
   have hT3:w.heap.size+1<V.drew.heap.size:=by have:=hb2.size;show _<V.heap.size;omega
   have hO3:=(hc3.far (p:=⟨w.heap.size+1,0,none⟩) (.int .i64 size) hT3).far (p:=⟨w.heap.size+1,1,none⟩) (.slice A3 l.length c3) hT3;clear hb3 bV hb2 hb1;obtain⟨W,hW⟩:∃ W,(w3.setCell ⟨w.heap.size+1,0,none⟩ (.int .i64 size)).setCell ⟨w.heap.size+1,1,none⟩ (.slice A3 l.length c3)=W:=⟨_,rfl⟩;have kW:Blk W (w.heap.size+1) 33 #[.int .i64 size,.slice A3 l.length c3]:=by rw[←hW];exact(kT3.set_ 0 _).set_ 1 _
   have bW:Below w.heap.size w W:=by rw[←hW];exact zbl
   rw[hW];rw[hW] at hO3;clear hW q0 q1;refine bodyPost_ret (by simp[results,Tryz.results164,go_sem,zc2 kW] <;> rfl) rfl ?_;unfold TakePost;rw[HR.out];exact⟨A3,c3,rfl,(OwnE.of_own hO3 rfl).base_ (by omega),bW⟩
 ·have HR:Hid (tkP p=(.zero,0,z)):=by show _=_;unfold tkP;rw[hz,if_pos (by simpa using z0)]
  have zb:(z != 0)=true:=by simpa using z0
  have HZ:=Lib.hid hz;clear hz;unfold poV
  (refine calls_of_wpN Tryz.func164 rfl ?_;simp only[Tryz.ntmps164,List.size_toArray,List.length_cons,List.length_nil,Nat.reduceAdd,Nat.reduceSub,Array.replicate_succ,Array.replicate_zero,List.push_toArray,List.append_toArray,List.nil_append,List.cons_append])
  (refine WpN.seq_k ?_;intro K hK;go_wp2)
  refine WpN.seq_k ?_;intro K hK;go_wp2_with fail;refine (pCheck_any A c p _ (HA.out.ext zbl) la HZ.out).mono ?_;rintro e w1 ⟨rfl,hb1⟩;have kT:Blk w1 (w.heap.size+1) 33 #[.int .i64 0,.slice none 0 0]:=(by refine Blk.below_ ?_ hb1 ?_ <;> first | exact Blk.new_ (by simp) rfl | simp);obtain⟨q0,q1⟩:=zc2 kT;obtain⟨q2,q3,-⟩:=zf kT;have zT:w.heap.size+1<w1.heap.size:=Nat.lt_of_lt_of_le (by simp) hb1.size
  go_wp2
  obtain⟨W,hW⟩:∃ W,(w1.setCell ⟨w.heap.size+1,0,none⟩ (.int .i64 0)).setCell ⟨w.heap.size+1,1,none⟩ (.slice none 0 0)=W:=⟨_,rfl⟩;have kW:Blk W (w.heap.size+1) 33 #[.int .i64 0,.slice none 0 0]:=by rw[←hW];exact(kT.set_ 0 _).set_ 1 _
  have bW:Below w.heap.size w W:=by rw[←hW];exact zbl
  rw[hW];clear hW q0 q1;refine bodyPost_ret (by simp[results,Tryz.results164,go_sem,zc2 kW] <;> rfl) rfl ?_;unfold TakePost;rw[HR.out];exact⟨none,0,rfl,OwnE.nil,bW⟩
end Go.Proofs.YthijbipidbjpfaaGreatDoor
namespace Go.Proofs.YthijbipidbjpfaaGreatDoor
open Go.RowKit Go.Maps
def PoPost(R:Pol × Int)(w:World)(e:Ending)(w':World):Prop:=∃ A c,e=.returned (.tuple #[poV A c R.1,.int .i64 R.2])∧OwnE intE w' w.heap.size A c R.1.free∧Below w.heap.size w w'
def rngP(n:Nat):List Int:=(List.range n).map fun (i:Nat)=>(i:Int)
theorem rngP_succ(n:Nat):rngP (n+1)=rngP n++[(n:Int)]:=by simp[rngP,List.range_succ]
theorem rngP_len(n:Nat):(rngP n).length=n:=by simp[rngP]
theorem pNew_any(n:Int)(w:World):Calls Tryz.prog 75 #[.int .i64 n] w (PoPost (newP n) w):=by
 by_cases h:n<1∨32<n
 ·have HR:Hid (newP n=(.zero,2)):=by show _=_;unfold newP;rw[if_pos h]
  rcases h with h | h
  ·go_enter Tryz.func75,Tryz.ntmps75
   go_wp2
   refine bodyPost_ret (by simp[results,Tryz.results75,go_sem] <;> rfl) rfl ?_;unfold PoPost;rw[HR.out];exact⟨none,0,rfl,OwnE.nil,zbl⟩
  ·by_cases h1:n<1
   ·omega
   ·go_enter Tryz.func75,Tryz.ntmps75
    go_wp2
    refine bodyPost_ret (by simp[results,Tryz.results75,go_sem] <;> rfl) rfl ?_;unfold PoPost;rw[HR.out];exact⟨none,0,rfl,OwnE.nil,zbl⟩
 ·have HR:Hid (newP n=(⟨n,rngP n.toNat⟩,0)):=by show _=_;unfold newP;rw[if_neg h];rfl
  have h1:¬ n<1:=by omega
  have h2:¬ 32<n:=by omega
  clear h
  go_enter Tryz.func75,Tryz.ntmps75
  go_wp2
  obtain⟨V,hV⟩:∃ V,(w.alloc (.cells #[.int .i64 0,.slice none 0 0] 33)).alloc (.cells #[.int .i64 n,.slice none 0 0] 33)=V:=⟨_,rfl⟩;have BV:Below w.heap.size w V:=by rw[←hV];exact zbl
  have kT:=za1 hV;have kB:=za2 hV;have zV:V.heap.size=w.heap.size+2:=by rw[←hV];simp
  rw[hV];clear hV;obtain⟨m,rfl⟩:∃ m:Nat,n=m:=⟨n.toNat,by omega⟩
  go_loopw [16] (fun i wr=>∃ (k:Nat) (A:Option Addr) (c:Nat) (zs:List Int),k≤m∧i=.int .i64 k∧Hid (zs=rngP k)∧Hid (OwnR intE wr V.heap.size (.slice A zs.length c) zs)∧Blk wr w.heap.size 33 #[.int .i64 0,.slice none 0 0]∧Blk wr (w.heap.size+1) 33 #[.int .i64 m,.slice A k c]∧Below w.heap.size w wr∧V.heap.size≤wr.heap.size) (fun i _=>m - (intOf i).toNat)
  case atStart=>exact⟨0,none,0,[],by omega,rfl,rfl,OwnR.nil,kT,kB,BV,Nat.le_refl _⟩
  case round=>
   obtain⟨k,A,c,zs,hk,rfl,HZ,HO,kT1,kB1,hb,hz⟩:=hrel;have HL:Hid (zs.length=k):=by show _=_;rw[HZ.out,rngP_len]
   have b0:=zc kB1 0;have b1:=zc kB1 1;have zw:w.heap.size+1<wr.heap.size:=by omega
   by_cases hlt:k<m
   ·have i1:(k:Int)<m:=by omega
    have H1:Hid ((zs++[(k:Int)]).length=k+1):=by show _=_;simp[HL.out]
    have HZ1:Hid (zs++[(k:Int)]=rngP (k+1)):=by show _=_;rw[HZ.out,rngP_succ]
    go_wp2_with (at_builtin;refine wpList_ownR intE rfl (.tmp 20) (.tmp 22) _ rfl rfl _ V.heap.size (by simp;omega) A c k zs HL.out.symm (HO.out.ext zbl) (some ⟨wr.heap.size,0,none⟩) 1 1 [(k:Int)] rfl (SR.of_blk (E:=intE) (l:=[(k:Int)]) (t:=3) (Blk.new_ (by simp) rfl)) (by simp) (by simp;have:=HL.out;omega) rfl rfl ?_;rw[H1.out];intro A5 c5 w5 hO5 hb5 hg5;have hb5w:Below V.heap.size wr w5:=(Below.trans ((Below.refl _ wr).alloc hz _) hb5);have kB5:=kB1.below_ hb5w (by omega);have kT5:=kT1.below_ hb5w (by omega);have f5:=kB5.frozen_ 1;have c5':w5.cell? ⟨w.heap.size+1,1,none⟩=some (.slice A k c):=by simpa using kB5.cell_ 1)
    have hO6:OwnR intE w5 V.heap.size (.slice A5 (zs++[(k:Int)]).length c5) (zs++[(k:Int)]):=by rw[H1.out];exact hO5
    have b5:Below w.heap.size w w5:=hb.trans (hb5w.mono (by omega));refine⟨⟨k+1,A5,c5,zs++[(k:Int)],by omega,by go_num,HZ1,hO6.far (p:=⟨w.heap.size+1,1,none⟩) _ (by show w.heap.size+1<_;omega),kT5.far_ (by simp) _,by simpa using kB5.set_ 1 (.slice A5 (k+1) c5),zbl,?_⟩,by simp[intOf];omega⟩;have:=hb5w.size;simp[World.setCell];omega
   ·obtain rfl:k=m:=by omega
    have q0:=zc kT1 0;have q1:=zc kT1 1;obtain⟨q2,q3,-⟩:=zf kT1;have zw0:w.heap.size<wr.heap.size:=by omega
    go_wp2
    obtain⟨W,hW⟩:∃ W,(wr.setCell ⟨w.heap.size,0,none⟩ (.int .i64 k)).setCell ⟨w.heap.size,1,none⟩ (.slice A k c)=W:=⟨_,rfl⟩;have kW:Blk W w.heap.size 33 #[.int .i64 k,.slice A k c]:=by rw[←hW];exact(kT1.set_ 0 _).set_ 1 _
    have bW:Below w.heap.size w W:=by rw[←hW];exact zbl
    have hO6:=(HO.out.far (p:=⟨w.heap.size,0,none⟩) (.int .i64 k) (by show w.heap.size<_;omega)).far (p:=⟨w.heap.size,1,none⟩) (.slice A k c) (by show w.heap.size<_;omega);rw[hW] at hO6 ⊢;clear hW q0 q1;refine bodyPost_ret (by simp[results,Tryz.results75,go_sem,zc2 kW] <;> rfl) rfl ?_;unfold PoPost;rw[HR.out];refine⟨A,c,?_,?_,bW⟩
    ·simp[poV,rngP_len]
    ·have:=(OwnE.of_own hO6 rfl).base_ (base':=w.heap.size) (by omega)
     rw[HZ.out] at this;simpa using this
theorem giv_bit{l:List Int}{d r:Nat}(h:∀ x ∈ l,0≤x∧x<32):(mkP l.reverse ||| 2 ^ d).testBit r=decide ((r:Int)=d∨(r:Int) ∈ l):=by
 rw[Nat.testBit_or,mkP_bit (fun x hx=>h x (List.mem_reverse.1 hx)),Nat.testBit_two_pow,Bool.eq_iff_iff];simp
 constructor
 ·rintro (h | h)
  ·exact .inr h
  ·left;omega
 ·rintro (h | h)
  ·right;omega
  ·exact .inl h
def gvF(l:List Int)(d:Int)(k:Nat):List Int:=(rngP k).filter fun i=>decide (i=d∨i ∈ l)
theorem gvF_yes{l:List Int}{d:Int}{k:Nat}(h:(k:Int)=d∨(k:Int) ∈ l):gvF l d (k+1)=gvF l d k++[(k:Int)]:=by
 unfold gvF;rw[rngP_succ,List.filter_append];simp[h]
theorem gvF_no{l:List Int}{d:Int}{k:Nat}(h:¬ ((k:Int)=d∨(k:Int) ∈ l)):gvF l d (k+1)=gvF l d k:=by
 unfold gvF;rw[rngP_succ,List.filter_append];simp only[not_or] at h;simp[h.1,h.2]
theorem gvF_len(l:List Int)(d:Int)(k:Nat):(gvF l d k).length≤k:=Nat.le_trans (List.length_filter_le _ _) (by rw[rngP_len];omega)
theorem pGive_any(A:Option Addr)(c:Nat)(p:Pol)(d:Int)(w:World)(ha:SR intE w A p.free)(la:p.free.length≤1000) :
  Calls Tryz.prog 138 #[poV A c p,.int .i64 d] w (PoPost (gvP p d) w):=by
 obtain⟨⟨z,n⟩,hz⟩:∃ x,chkP p=x:=⟨_,rfl⟩;have HA:=Lib.hid ha;have HZ:=Lib.hid hz;clear ha;obtain⟨size,l⟩:=p;dsimp only at *;unfold poV
 by_cases z0:z=0
 ·subst z0
  have ok:=chkP_ok (p:=⟨size,l⟩) (by rw[hz]);obtain⟨ok1,ok2,ok3⟩:=ok;dsimp only at *
  have HF:Hid (∀ x ∈ l,0≤x∧x<32):=fun x hx=>by have:=ok2 x hx;omega
  by_cases d1:d<0
  ·have HR:Hid (gvP ⟨size,l⟩ d=(.zero,2)):=by show _=_;unfold gvP;rw[hz,if_neg (by simp),if_pos (.inl d1)]
   clear hz ok2 ok3
   go_enter Tryz.func138,Tryz.ntmps138
   go_wp2_with fail;refine (pCheck_any A c ⟨size,l⟩ _ (HA.out.ext zbl) la HZ.out).mono ?_;rintro e1 w1 ⟨rfl,hb1⟩;have kT_w1:Blk w1 (w.heap.size+1) 33 #[.int .i64 0,.slice none 0 0]:=(by refine Blk.below_ ?_ hb1 ?_ <;> first | exact Blk.new_ (by simp) rfl | simp);have kB_w1:Blk w1 w.heap.size 33 #[.int .i64 size,.slice A l.length c]:=(by refine Blk.below_ ?_ hb1 ?_ <;> first | exact Blk.alloc_ (Blk.new_ rfl rfl) _ | (simp;omega) | simp);obtain⟨q0,q1⟩:=zc2 kT_w1;obtain⟨q2,q3,-⟩:=zf kT_w1;obtain⟨b0,b1⟩:=zc2 kB_w1;have zT:w.heap.size+1<w1.heap.size:=Nat.lt_of_lt_of_le (by simp) hb1.size;have d1w:Below w.heap.size w w1:=by refine Below.trans ?_ (hb1.mono (by simp;omega));exact zbl
   clear hb1
   go_wp2
   obtain⟨W,hW⟩:∃ W,(w1.setCell ⟨w.heap.size+1,0,none⟩ (.int .i64 0)).setCell ⟨w.heap.size+1,1,none⟩ (.slice none 0 0)=W:=⟨_,rfl⟩;have kW:Blk W (w.heap.size+1) 33 #[.int .i64 0,.slice none 0 0]:=by rw[←hW];exact(kT_w1.set_ 0 _).set_ 1 _
   have bW:Below w.heap.size w W:=by rw[←hW];exact zbl
   rw[hW];clear hW q0 q1;refine bodyPost_ret (by simp[results,Tryz.results138,go_sem,zc2 kW] <;> rfl) rfl ?_;unfold PoPost;rw[HR.out];exact⟨none,0,rfl,OwnE.nil,bW⟩
  ·by_cases d2:size≤d
   ·have HR:Hid (gvP ⟨size,l⟩ d=(.zero,2)):=by show _=_;unfold gvP;rw[hz,if_neg (by simp),if_pos (.inr d2)]
    clear hz ok2 ok3
    go_enter Tryz.func138,Tryz.ntmps138
    go_wp2_with fail;refine (pCheck_any A c ⟨size,l⟩ _ (HA.out.ext zbl) la HZ.out).mono ?_;rintro e1 w1 ⟨rfl,hb1⟩;have kT_w1:Blk w1 (w.heap.size+1) 33 #[.int .i64 0,.slice none 0 0]:=(by refine Blk.below_ ?_ hb1 ?_ <;> first | exact Blk.new_ (by simp) rfl | simp);have kB_w1:Blk w1 w.heap.size 33 #[.int .i64 size,.slice A l.length c]:=(by refine Blk.below_ ?_ hb1 ?_ <;> first | exact Blk.alloc_ (Blk.new_ rfl rfl) _ | (simp;omega) | simp);obtain⟨q0,q1⟩:=zc2 kT_w1;obtain⟨q2,q3,-⟩:=zf kT_w1;obtain⟨b0,b1⟩:=zc2 kB_w1;have zT:w.heap.size+1<w1.heap.size:=Nat.lt_of_lt_of_le (by simp) hb1.size;have d1w:Below w.heap.size w w1:=by refine Below.trans ?_ (hb1.mono (by simp;omega));exact zbl
    clear hb1
    go_wp2
    obtain⟨W,hW⟩:∃ W,(w1.setCell ⟨w.heap.size+1,0,none⟩ (.int .i64 0)).setCell ⟨w.heap.size+1,1,none⟩ (.slice none 0 0)=W:=⟨_,rfl⟩;have kW:Blk W (w.heap.size+1) 33 #[.int .i64 0,.slice none 0 0]:=by rw[←hW];exact(kT_w1.set_ 0 _).set_ 1 _
    have bW:Below w.heap.size w W:=by rw[←hW];exact zbl
    rw[hW];clear hW q0 q1;refine bodyPost_ret (by simp[results,Tryz.results138,go_sem,zc2 kW] <;> rfl) rfl ?_;unfold PoPost;rw[HR.out];exact⟨none,0,rfl,OwnE.nil,bW⟩
   ·obtain⟨e,rfl⟩:∃ e:Nat,d=e:=⟨d.toNat,by omega⟩
    have he:e<32:=by omega
    by_cases d3:(e:Int) ∈ l
    ·have HR:Hid (gvP ⟨size,l⟩ e=(.zero,7)):=by show _=_;unfold gvP;rw[hz,if_neg (by simp),if_neg (by dsimp only;omega),if_pos d3]
     have HB:Hid ((mkP l.reverse).testBit e=true):=by show _=_;rw[mkP_bit (fun x hx=>HF.out x (List.mem_reverse.1 hx))];simpa using d3
     have HM:Hid (mkP l.reverse<4294967296):=mkP_lt (fun x hx=>HF.out x (List.mem_reverse.1 hx));clear hz ok2 ok3 d3
     go_enter Tryz.func138,Tryz.ntmps138
     go_wp2_with fail;refine (pCheck_any A c ⟨size,l⟩ _ (HA.out.ext zbl) la HZ.out).mono ?_;rintro e1 w1 ⟨rfl,hb1⟩;have kT_w1:Blk w1 (w.heap.size+1) 33 #[.int .i64 0,.slice none 0 0]:=(by refine Blk.below_ ?_ hb1 ?_ <;> first | exact Blk.new_ (by simp) rfl | simp);have kB_w1:Blk w1 w.heap.size 33 #[.int .i64 size,.slice A l.length c]:=(by refine Blk.below_ ?_ hb1 ?_ <;> first | exact Blk.alloc_ (Blk.new_ rfl rfl) _ | (simp;omega) | simp);obtain⟨q0,q1⟩:=zc2 kT_w1;obtain⟨q2,q3,-⟩:=zf kT_w1;obtain⟨b0,b1⟩:=zc2 kB_w1;have zT:w.heap.size+1<w1.heap.size:=Nat.lt_of_lt_of_le (by simp) hb1.size;have d1w:Below w.heap.size w w1:=by refine Below.trans ?_ (hb1.mono (by simp;omega));exact zbl
     clear hb1;go_wp2_with fail;refine (pFree_any A c ⟨size,l⟩ _ (HA.out.ext zbl) la HF.out).mono ?_;rintro e2 w2 ⟨rfl,hb2⟩;clear q0 q1 q2 q3 b0 b1;have kT_w2:Blk w2 (w.heap.size+1) 33 #[.int .i64 0,.slice none 0 0]:=kT_w1.below_ hb2 (by omega);have kB_w2:Blk w2 w.heap.size 33 #[.int .i64 size,.slice A l.length c]:=kB_w1.below_ hb2 (by omega);obtain⟨q0,q1⟩:=zc2 kT_w2;obtain⟨q2,q3,-⟩:=zf kT_w2;obtain⟨b0,b1⟩:=zc2 kB_w2;have zT2:w.heap.size+1<w2.heap.size:=Nat.lt_of_lt_of_le zT hb2.size;have d2w:Below w.heap.size w w2:=d1w.trans (hb2.mono (by omega));clear hb2;go_wp2_with fail;refine (pHas_any (mkP l.reverse) e _ he HM.out).mono ?_;rintro e3 w3 ⟨rfl,rfl⟩;rw[HB.out]
     go_wp2
     obtain⟨W,hW⟩:∃ W,(w2.setCell ⟨w.heap.size+1,0,none⟩ (.int .i64 0)).setCell ⟨w.heap.size+1,1,none⟩ (.slice none 0 0)=W:=⟨_,rfl⟩;have kW:Blk W (w.heap.size+1) 33 #[.int .i64 0,.slice none 0 0]:=by rw[←hW];exact(kT_w2.set_ 0 _).set_ 1 _
     have bW:Below w.heap.size w W:=by rw[←hW];exact zbl
     rw[hW];clear hW q0 q1;refine bodyPost_ret (by simp[results,Tryz.results138,go_sem,zc2 kW] <;> rfl) rfl ?_;unfold PoPost;rw[HR.out];exact⟨none,0,rfl,OwnE.nil,bW⟩
    ·have HR:Hid (gvP ⟨size,l⟩ e=(⟨size,gvF l e size.toNat⟩,0)):=by show _=_;unfold gvP;rw[hz,if_neg (by simp),if_neg (by dsimp only;omega),if_neg d3];rfl
     have HB:Hid ((mkP l.reverse).testBit e=false):=by show _=_;rw[mkP_bit (fun x hx=>HF.out x (List.mem_reverse.1 hx))];simpa using d3
     have hm:mkP l.reverse<4294967296:=mkP_lt (fun x hx=>HF.out x (List.mem_reverse.1 hx));have HM:=Lib.hid hm;have hw3:IntKind.u64.wrap (e:Int)=e:=by rw[IntKind.wrap_u64];omega
     have hw4:min ((e:Int)).toNat 32=e:=by omega
     have h2l:2 ^ e<4294967296:=Nat.pow_lt_pow_right (a:=2) (n:=32) (by decide) (by omega);have h2r:(2:Int) ^ e=((2 ^ e:Nat):Int):=by simp
     have hw5:IntKind.u32.wrap ((2:Int) ^ e)=(2:Int) ^ e:=by rw[h2r,wrap_u32'];generalize (2:Nat) ^ e=p at h2l;omega
     obtain⟨M,eM⟩:∃ M:Nat,mkP l.reverse ||| 2 ^ e=M:=⟨_,rfl⟩
     have hbo:bits BinOp.or IntKind.u32 ((mkP l.reverse:Nat):Int) ((2:Int) ^ e)=(M:Int):=by rw[h2r,bits_or_u32_nat _ _ hm h2l,eM]
     have HMl:Hid (M<4294967296):=by rw[←eM];exact Nat.or_lt_two_pow (n:=32) hm h2l
     have HMb:Hid (∀ r:Nat,M.testBit r=decide ((r:Int)=e∨(r:Int) ∈ l)):=fun r=>by rw[←eM];exact giv_bit HF.out
     have HO:=Lib.hid hbo;obtain⟨m,rfl⟩:∃ m:Nat,size=m:=⟨size.toNat,by omega⟩;clear hz ok2 ok3 d3 hm h2l h2r eM hbo
     go_enter Tryz.func138,Tryz.ntmps138
     go_wp2_with fail;refine (pCheck_any A c ⟨(m:Int),l⟩ _ (HA.out.ext zbl) la HZ.out).mono ?_;rintro e1 w1 ⟨rfl,hb1⟩;have kT_w1:Blk w1 (w.heap.size+1) 33 #[.int .i64 0,.slice none 0 0]:=(by refine Blk.below_ ?_ hb1 ?_ <;> first | exact Blk.new_ (by simp) rfl | simp);have kB_w1:Blk w1 w.heap.size 33 #[.int .i64 (m:Int),.slice A l.length c]:=(by refine Blk.below_ ?_ hb1 ?_ <;> first | exact Blk.alloc_ (Blk.new_ rfl rfl) _ | (simp;omega) | simp);obtain⟨q0,q1⟩:=zc2 kT_w1;obtain⟨q2,q3,-⟩:=zf kT_w1;obtain⟨b0,b1⟩:=zc2 kB_w1;have zT:w.heap.size+1<w1.heap.size:=Nat.lt_of_lt_of_le (by simp) hb1.size;have d1w:Below w.heap.size w w1:=by refine Below.trans ?_ (hb1.mono (by simp;omega));exact zbl
     clear hb1;go_wp2_with fail;refine (pFree_any A c ⟨(m:Int),l⟩ _ (HA.out.ext zbl) la HF.out).mono ?_;rintro e2 w2 ⟨rfl,hb2⟩;clear q0 q1 q2 q3 b0 b1;have kT_w2:Blk w2 (w.heap.size+1) 33 #[.int .i64 0,.slice none 0 0]:=kT_w1.below_ hb2 (by omega);have kB_w2:Blk w2 w.heap.size 33 #[.int .i64 (m:Int),.slice A l.length c]:=kB_w1.below_ hb2 (by omega);obtain⟨q0,q1⟩:=zc2 kT_w2;obtain⟨q2,q3,-⟩:=zf kT_w2;obtain⟨b0,b1⟩:=zc2 kB_w2;have zT2:w.heap.size+1<w2.heap.size:=Nat.lt_of_lt_of_le zT hb2.size;have d2w:Below w.heap.size w w2:=d1w.trans (hb2.mono (by omega));clear hb2;go_wp2_with fail;refine (pHas_any (mkP l.reverse) e _ he HM.out).mono ?_;rintro e3 w3 ⟨rfl,rfl⟩;rw[HB.out];have zB2:w.heap.size<w2.heap.size:=by omega
     go_wp2_with fail;rw[HO.out];obtain⟨V,hV⟩:∃ V,w2.alloc (.cells #[.int .i64 m,.slice none 0 0] 33)=V:=⟨_,rfl⟩;have BV:Below w.heap.size w V:=by rw[←hV];exact zbl
     have kT:Blk V (w.heap.size+1) 33 #[.int .i64 0,.slice none 0 0]:=by rw[←hV];exact kT_w2.alloc_ _
     have kQ:=za hV;have zV:V.heap.size=w2.heap.size+1:=by rw[←hV];simp
     rw[hV];clear hV q0 q1 q2 q3 b0 b1
     go_loopw [45] (fun i wr=>∃ (k:Nat) (A':Option Addr) (c' L:Nat) (zs:List Int),k≤m∧i=.int .i64 k∧Hid (zs=gvF l e k)∧Hid (L=zs.length)∧Hid (OwnR intE wr V.heap.size (.slice A' zs.length c') zs)∧Blk wr (w.heap.size+1) 33 #[.int .i64 0,.slice none 0 0]∧Blk wr w2.heap.size 33 #[.int .i64 m,.slice A' L c']∧Below w.heap.size w wr∧V.heap.size≤wr.heap.size) (fun i _=>m - (intOf i).toNat)
     case atStart=>exact⟨0,none,0,0,[],by omega,rfl,rfl,rfl,OwnR.nil,kT,kQ,BV,Nat.le_refl _⟩
     case round=>
      obtain⟨k,A',c',L,zs,hk,rfl,HZs,HL,HOw,kT1,kQ1,hb,hz⟩:=hrel;have b0:=zc kQ1 0;have b1:=zc kQ1 1;have zw:w2.heap.size<wr.heap.size:=by omega
      have zl:zs.length≤1000:=by have:=gvF_len l e k;rw[←HZs.out] at this;omega
      by_cases hlt:k<m
      ·have i1:(k:Int)<m:=by omega
       cases hin:decide ((k:Int)=e∨(k:Int) ∈ l) with
       | false=>
        have HBk:Hid (M.testBit k=false):=by show _=_;rw[HMb.out,hin]
        have HZ1:Hid (zs=gvF l e (k+1)):=by show _=_;rw[HZs.out,gvF_no (by simpa using hin)]
        clear hin;go_wp2_with fail;refine (pHas_any M k _ (by omega) HMl.out).mono ?_;rintro e5 w5 ⟨rfl,rfl⟩;rw[HBk.out]
        go_wp2
        exact⟨⟨k+1,A',c',L,zs,by omega,by go_num,HZ1,HL,HOw,kT1,kQ1,hb,hz⟩,by simp[intOf];omega⟩
       | true=>
        have HBk:Hid (M.testBit k=true):=by show _=_;rw[HMb.out,hin]
        have HZ1:Hid (zs++[(k:Int)]=gvF l e (k+1)):=by show _=_;rw[HZs.out,gvF_yes (by simpa using hin)]
        have H1:Hid ((zs++[(k:Int)]).length=L+1):=by show _=_;simp[HL.out]
        clear hin;go_wp2_with fail;refine (pHas_any M k _ (by omega) HMl.out).mono ?_;rintro e5 w5 ⟨rfl,rfl⟩;rw[HBk.out]
        go_wp2_with (at_builtin;refine wpList_ownR intE rfl (.tmp 52) (.tmp 54) _ rfl rfl _ V.heap.size (by simp;omega) A' c' L zs HL.out (HOw.out.ext zbl) (some ⟨wr.heap.size,0,none⟩) 1 1 [(k:Int)] rfl (SR.of_blk (E:=intE) (l:=[(k:Int)]) (t:=3) (Blk.new_ (by simp) rfl)) (by simp) (by simp;omega) rfl rfl ?_;rw[H1.out];intro A5 c5 w5 hO5 hb5 hg5;have hb5w:Below V.heap.size wr w5:=(Below.trans ((Below.refl _ wr).alloc hz _) hb5);have kQ5:=kQ1.below_ hb5w (by omega);have kT5:=kT1.below_ hb5w (by omega);have f5:=kQ5.frozen_ 1;have c5':w5.cell? ⟨w2.heap.size,1,none⟩=some (.slice A' L c'):=by simpa using kQ5.cell_ 1)
        have hO6:OwnR intE w5 V.heap.size (.slice A5 (zs++[(k:Int)]).length c5) (zs++[(k:Int)]):=by rw[H1.out];exact hO5
        have b5:Below w.heap.size w w5:=hb.trans (hb5w.mono (by omega));refine⟨⟨k+1,A5,c5,L+1,zs++[(k:Int)],by omega,by go_num,HZ1,H1.out.symm,hO6.far (p:=⟨w2.heap.size,1,none⟩) _ (by show w2.heap.size<_;omega),kT5.far_ (by simp;omega) _,by simpa using kQ5.set_ 1 (.slice A5 (L+1) c5),zbl,?_⟩,by simp[intOf];omega⟩;have:=hb5w.size;simp[World.setCell];omega
      ·obtain rfl:k=m:=by omega
       have q0:=zc kT1 0;have q1:=zc kT1 1;obtain⟨q2,q3,-⟩:=zf kT1;have zw0:w.heap.size+1<wr.heap.size:=by omega
       go_wp2
       obtain⟨W,hW⟩:∃ W,(wr.setCell ⟨w.heap.size+1,0,none⟩ (.int .i64 k)).setCell ⟨w.heap.size+1,1,none⟩ (.slice A' L c')=W:=⟨_,rfl⟩;have kW:Blk W (w.heap.size+1) 33 #[.int .i64 k,.slice A' L c']:=by rw[←hW];exact(kT1.set_ 0 _).set_ 1 _
       have bW:Below w.heap.size w W:=by rw[←hW];exact zbl
       have hO6:=(HOw.out.far (p:=⟨w.heap.size+1,0,none⟩) (.int .i64 k) (by show w.heap.size+1<_;omega)).far (p:=⟨w.heap.size+1,1,none⟩) (.slice A' L c') (by show w.heap.size+1<_;omega);rw[hW] at hO6 ⊢;clear hW q0 q1;refine bodyPost_ret (by simp[results,Tryz.results138,go_sem,zc2 kW] <;> rfl) rfl ?_;unfold PoPost;rw[HR.out];have hcr:=(OwnE.of_own hO6 rfl).base_ (base':=w.heap.size) (by omega);have hl:=HL.out;rw[HZs.out] at hcr hl;refine⟨A',c',?_,by simpa using hcr,bW⟩;simp[poV,hl]
 ·have HR:Hid (gvP ⟨size,l⟩ d=(.zero,z)):=by show _=_;unfold gvP;rw[hz,if_pos (by simpa using z0)]
  have zb:(z != 0)=true:=by simpa using z0
  clear hz
  go_enter Tryz.func138,Tryz.ntmps138
  go_wp2_with fail;refine (pCheck_any A c ⟨size,l⟩ _ (HA.out.ext zbl) la HZ.out).mono ?_;rintro e1 w1 ⟨rfl,hb1⟩;have kT_w1:Blk w1 (w.heap.size+1) 33 #[.int .i64 0,.slice none 0 0]:=(by refine Blk.below_ ?_ hb1 ?_ <;> first | exact Blk.new_ (by simp) rfl | simp);have kB_w1:Blk w1 w.heap.size 33 #[.int .i64 size,.slice A l.length c]:=(by refine Blk.below_ ?_ hb1 ?_ <;> first | exact Blk.alloc_ (Blk.new_ rfl rfl) _ | (simp;omega) | simp);obtain⟨q0,q1⟩:=zc2 kT_w1;obtain⟨q2,q3,-⟩:=zf kT_w1;obtain⟨b0,b1⟩:=zc2 kB_w1;have zT:w.heap.size+1<w1.heap.size:=Nat.lt_of_lt_of_le (by simp) hb1.size;have d1w:Below w.heap.size w w1:=by refine Below.trans ?_ (hb1.mono (by simp;omega));exact zbl
  clear hb1
  go_wp2
  obtain⟨W,hW⟩:∃ W,(w1.setCell ⟨w.heap.size+1,0,none⟩ (.int .i64 0)).setCell ⟨w.heap.size+1,1,none⟩ (.slice none 0 0)=W:=⟨_,rfl⟩;have kW:Blk W (w.heap.size+1) 33 #[.int .i64 0,.slice none 0 0]:=by rw[←hW];exact(kT_w1.set_ 0 _).set_ 1 _
  have bW:Below w.heap.size w W:=by rw[←hW];exact zbl
  rw[hW];clear hW q0 q1;refine bodyPost_ret (by simp[results,Tryz.results138,go_sem,zc2 kW] <;> rfl) rfl ?_;unfold PoPost;rw[HR.out];exact⟨none,0,rfl,OwnE.nil,bW⟩
theorem bWords_any(n:Nat)(w:World)(h1:1≤n)(h2:n≤64):Calls Tryz.prog 188 #[.int .i64 n] w fun e w'=>e=.returned (.int .i64 1)∧w=w':=by
 have hd:((n:Int)+64 - 1).tdiv 64=1:=by rw[Int.tdiv_eq_ediv_of_nonneg (by omega)];omega
 go_enter Tryz.func188,Tryz.ntmps188
 go_wp2
 go_ret;exact⟨rfl,rfl⟩
def mskN(a b:Nat):Nat:=if b≤a then 0 else (18446744073709551615*2 ^ a % 18446744073709551616) &&& (18446744073709551615 / 2 ^ (64 - b))
theorem mskN_bit{a b:Nat}(hb:b≤64)(j:Nat):(mskN a b).testBit j=decide (a≤j∧j<b):=by
 unfold mskN
 by_cases h:b≤a
 ·rw[if_pos h]
  simp;omega
 ·rw[if_neg h,Nat.testBit_and,show (18446744073709551616:Nat)=2 ^ 64 from rfl,show (18446744073709551615:Nat)=2 ^ 64 - 1 from rfl,←Nat.shiftLeft_eq,←Nat.shiftRight_eq_div_pow,Nat.testBit_mod_two_pow,Nat.testBit_shiftLeft,Nat.testBit_shiftRight,Nat.testBit_two_pow_sub_one,Nat.testBit_two_pow_sub_one,Bool.eq_iff_iff]
  simp;omega
theorem mskN_lt{a b:Nat}(hb:b≤64):mskN a b<2 ^ b:=by
 refine Nat.lt_pow_two_of_testBit _ fun j hj => ?_
 rw[mskN_bit hb];simp;omega
theorem mskN_one{d:Nat}(hd:d<64):mskN d (d+1)=2 ^ d:=by
 refine Nat.eq_of_testBit_eq fun j => ?_
 rw[mskN_bit (by omega),Nat.testBit_two_pow,Bool.eq_iff_iff];simp;omega
theorem bMask_any(a b:Nat)(w:World)(hb:b≤64)(ha:a≤64):Calls Tryz.prog 191 #[.int .i64 0,.int .i64 a,.int .i64 b] w fun e w'=>e=.returned (.int .u64 (mskN a b))∧w=w':=by
 by_cases h:b≤a
 ·have e:mskN a b=0:=by unfold mskN;rw[if_pos h]
  rw[e];have m1:max (a:Int) 0=a:=by omega
  have m2:min (b:Int) 64=b:=by omega
  go_enter Tryz.func191,Tryz.ntmps191
  go_wp2
  go_ret;exact⟨rfl,rfl⟩
 ·have m1:max (a:Int) 0=a:=by omega
  have m2:min (b:Int) 64=b:=by omega
  have hw1:IntKind.u64.wrap (a:Int)=a:=by rw[IntKind.wrap_u64];omega
  have hw2:IntKind.u64.wrap (64 - (b:Int))=64 - (b:Int):=by rw[IntKind.wrap_u64];omega
  have hab:¬ (a:Int)≥b:=by omega
  have hw4:min ((a:Int)).toNat 64=a:=by omega
  have hw5:min (64 - (b:Int)).toNat 64=64 - b:=by omega
  go_enter Tryz.func191,Tryz.ntmps191
  go_wp2
  go_ret;refine⟨?_,rfl⟩
  have e1:IntKind.u64.wrap (18446744073709551615*2 ^ a)=((18446744073709551615*2 ^ a % 18446744073709551616:Nat):Int):=by
   rw[IntKind.wrap_u64];simp
  have e2:(18446744073709551615 / 2 ^ (64 - b):Int)=((18446744073709551615 / 2 ^ (64 - b):Nat):Int):=by simp
  have e3:bits BinOp.and IntKind.u64 (IntKind.u64.wrap (18446744073709551615*2 ^ a)) (18446744073709551615 / 2 ^ (64 - b))=((mskN a b:Nat):Int):=by
   rw[e1,e2,bits_and_u64_nat _ _ (Nat.mod_lt _ (by decide)) (Nat.lt_of_le_of_lt (Nat.div_le_self _ _) (by decide))];unfold mskN;rw[if_neg (by omega)]
  show Ending.returned (Value.int .u64 (bits BinOp.and IntKind.u64 (IntKind.u64.wrap (18446744073709551615*2 ^ a)) (18446744073709551615 / 2 ^ (64 - b))))=_;rw[e3]
def wdE:Elt Tryz.prog Nat where
 e:=36
 s:=201
 sz:=1
 bytes:=8
 z:=.int .u64 0
 enc x:=[.int .u64 (x:Int)]
 hs:=Tryz.underlying201
 hi:=by kernel_rfl
 hz:=rfl
 hlen _:=rfl
 hone _ u hu:=by simp at hu;subst hu;rfl
 pos:=by decide
 few:=by decide
theorem bCheck_any(b off c:Nat)(n x:Nat)(w:World)(h1:1≤n)(h2:n≤32)(hx:x<2 ^ n)(hc:w.cell? ⟨b,off,none⟩=some (.int .u64 x))(hbl:b<w.heap.size) :
  Calls Tryz.prog 189 #[.agg #[.int .i64 n,.slice (some ⟨b,off,none⟩) 1 c]] w fun e w'=>e=.returned (.int .i64 0)∧Below w.heap.size w w':=by
 have g1:¬ (n:Int)<0:=by omega
 have g2:¬ (1024:Int)<(n:Int):=by omega
 have hw1:IntKind.u64.wrap (n:Int)=n:=by rw[IntKind.wrap_u64];omega
 have hm:(n:Int).tmod 64=n:=by rw[Int.tmod_eq_emod_of_nonneg (by omega)];omega
 have hn0:((n:Int) != 0)=true:=by simp;omega
 have hw4:min ((n:Int)).toNat 64=n:=by omega
 have hd:(x:Int) / 2 ^ n=0:=by
  have:x / 2 ^ n=0:=Nat.div_eq_of_lt hx;have e:(x:Int) / 2 ^ n=((x / 2 ^ n:Nat):Int):=by simp
  rw[e,this];rfl
 have hc1:=cell_keep ((Below.refl _ w).alloc (Nat.le_refl _) (.cells #[.int .i64 n,.slice (some ⟨b,off,none⟩) 1 c] 203)) hc hbl
 go_enter Tryz.func189,Tryz.ntmps189
 go_wp2
 go_quiet ((go_at_call 188;first | exact quiet_l (bWords_any n _ h1 (by omega)) | exact quiet_l2 (bWords_any n _ h1 (by omega))))
 go_wp2
 go_ret;exact⟨rfl,zbl⟩
def BiPost(n x:Nat)(w:World)(e:Ending)(w':World):Prop:=∃ b off c,e=.returned (.tuple #[.agg #[.int .i64 n,.slice (some ⟨b,off,none⟩) 1 c],.int .i64 0])∧w'.cell? ⟨b,off,none⟩=some (.int .u64 x)∧(w.heap.size≤b∧b<w'.heap.size)∧Below w.heap.size w w'
theorem mk1w(w:World):(Instr.makeSlice 201 (.int .i64 1) (.int .i64 1)).run Tryz.prog w=.ok (.slice (some ⟨w.heap.size,0,none⟩) 1 1) (w.alloc (.cells #[.int .u64 0] 36)):=by kernel_rfl
theorem bNew_any(n:Nat)(w:World)(h1:1≤n)(h2:n≤32):Calls Tryz.prog 168 #[.int .i64 n] w (BiPost n 0 w):=by
 have g1:¬ (n:Int)<0:=by omega
 have g2:¬ (1024:Int)<(n:Int):=by omega
 have hmk:=mk1w
 go_enter Tryz.func168,Tryz.ntmps168
 go_wp2_with fail;refine (bWords_any n _ h1 (by omega)).mono ?_;rintro e w1 ⟨rfl,rfl⟩
 go_wp2
 refine bodyPost_ret (by simp[results,Tryz.results168,go_sem] <;> rfl) rfl ?_;exact⟨w.heap.size+1,0,1,rfl,by simp,by simp,zbl⟩
end Go.Proofs.YthijbipidbjpfaaGreatDoor
