import Derived.Test.YthijbipidbjpfaaGreatDoorZP07
import Derived.Test.YthijbipidbjpfaaGreatDoorZP00
import Derived.Maps.RangeWalk
import Derived.Maps.OwnIn
import Derived.Maps.Ext
import Derived.Test.YthijbipidbjpfaaGreatDoorZP06
set_option linter.unusedSimpArgs false
set_option linter.unusedVariables false
set_option maxRecDepth 100000
set_option maxHeartbeats 8000000
set_option linter.unusedSectionVars false
namespace Go.Proofs.YthijbipidbjpfaaGreatDoor
open Go.RowKit Go.Maps
section
variable {P : Program} {α : Type}
theorem run_mkR(E:Elt P α)(z0:α)(hz0:E.z.cells=(E.enc z0).toArray)(n:Nat)(hn:n≤10000)(w:World):(Instr.makeSlice E.s (.int .i64 n) (.int .i64 n)).run P w=.ok (.slice (some ⟨w.heap.size,0,none⟩) n n) (w.alloc (.cells (E.flat (List.replicate n z0)).toArray E.e)):=by
 obtain⟨i0,hi,h0,h1,h2⟩:=info_parts E.hi;obtain⟨f1,f2⟩:=E.few;have hpos:=E.pos;have hm:=Nat.mul_le_mul hn f2;have hb:=Nat.mul_le_mul f1 hn;have hb':((E.bytes:Int)*(n:Int))≤281474976710656:=by rw[←Int.natCast_mul];omega
 have h:=run_makeSlice (P:=P) (w:=w) E.s E.e i0 _ E.hs hi h0 .i64 .i64 n n (by omega) (by omega) (by rw[h1];simp;omega) (by rw[h2];exact hb') (by omega);rw[h,h1]
 have e:madeCells E.z.cells ((n:Int).toNat*E.sz)=(E.flat (List.replicate n z0)).toArray:=by
  rw[hz0]
  refine Array.ext (by simp[madeCells,E.flat_length]) fun i a b => ?_
  have hl:i<n*E.sz:=by simpa [E.flat_length] using b
  have hk:i / E.sz<n:=(Nat.div_lt_iff_lt_mul hpos).2 hl;have hj:i % E.sz<(E.enc z0).length:=by rw[E.hlen];exact Nat.mod_lt _ hpos
  have h3:=E.flat_at (l:=List.replicate n z0) (k:=i / E.sz) (j:=i % E.sz) (x:=z0) (by rw[List.getElem?_replicate,if_pos hk]) (List.getElem?_eq_getElem hj);rw[Nat.mul_comm,Nat.div_add_mod] at h3
  have h4:(E.flat (List.replicate n z0)).toArray[i]=(E.enc z0)[i % E.sz]:=by
   have:=(List.getElem?_eq_some_iff.1 h3).2;simpa using this
  rw[h4];have hs:=E.hlen z0;simp[madeCells,hs,List.getElem?_eq_getElem hj]
 rw[e];rfl
theorem OwnR.made(E:Elt P α)(z0:α)(n:Nat)(hn:n≤10000)(w:World){base:Nat}(hb:base≤w.heap.size):OwnR E (w.alloc (.cells (E.flat (List.replicate n z0)).toArray E.e)) base (.slice (some ⟨w.heap.size,0,none⟩) n n) (List.replicate n z0):=by
 unfold OwnR;rw[List.length_replicate];refine⟨by rw[E.flat_length,List.length_replicate],.inr ⟨w.heap.size,n,_,rfl,hb,World.alloc_heap_new w _,Nat.le_refl _,by unfold maxLen;omega,by simp[E.flat_length],?_⟩⟩;rw[List.toList_toArray,List.take_of_length_le (by rw[E.flat_length,List.length_replicate];exact Nat.le_refl _)]
theorem OwnR.blk{E:Elt P α}{w:World}{base n c:Nat}{A:Option Addr}{l:List α}(h:OwnR E w base (.slice A n c) l)(hp:0<l.length):∃ g cur,A=some ⟨g,0,none⟩∧n=l.length∧base≤g∧Blk w g E.e cur∧l.length≤c∧c≤maxLen∧cur.size=c*E.sz∧cur.toList.take (l.length*E.sz)=E.flat l:=by
 obtain⟨hl,⟨e,hn⟩ | ⟨g,cap,cur,e,hg,hb,h1,h2,h3,h4⟩⟩:=h
 ·omega
 ·injection e with e1 e2 e3
  subst e1 e2 e3;exact⟨g,cur,rfl,rfl,hg,hb,h1,h2,h3,h4⟩
theorem OwnR.far'{E:Elt P α}{w:World}{base g n c:Nat}{l:List α}(h:OwnR E w base (.slice (some ⟨g,0,none⟩) n c) l){p:Addr}(hp:g≠p.block)(u:Value):OwnR E (w.setCell p u) base (.slice (some ⟨g,0,none⟩) n c) l:=by
 obtain⟨hl,⟨e,hn⟩ | ⟨g',cap,cur,e,hg,hb,h1⟩⟩:=h
 ·cases e
 ·injection e with e e2 e3
  injection e with e
  injection e with e
  subst e e2 e3;exact⟨hl,.inr ⟨g,_,cur,rfl,hg,Blk.far_ (w:=w) (b:=g) hb hp u,h1⟩⟩
theorem OwnR.set1{E:Elt P α}(hs:E.sz=1){w:World}{base g n c:Nat}{l:List α}(h:OwnR E w base (.slice (some ⟨g,0,none⟩) n c) l){i:Nat}(hi:i<l.length)(x:α){v:Value}(hv:E.enc x=[v]):OwnR E (w.setCell ⟨g,i,none⟩ v) base (.slice (some ⟨g,0,none⟩) n c) (l.set i x):=by
 obtain⟨g',cur,e,rfl,hg,hb,h1,h2,h3,h4⟩:=h.blk (by omega);injection e with e
 injection e with e
 subst e;unfold OwnR;rw[List.length_set];refine⟨by rw[E.flat_length,List.length_set],.inr ⟨g,c,cur.setIfInBounds i v,rfl,hg,hb.set_ i v,h1,h2,by simpa using h3,?_⟩⟩;rw[Array.toList_setIfInBounds,List.take_set,h4]
 have key:∀ (l:List α) (i:Nat),(E.flat l).set i v=E.flat (l.set i x):=by
  intro l
  induction l with
  | nil=>intro i;simp[Elt.flat]
  | cons y l ih=>
   intro i
   have e:∀ (y:α) (l:List α),E.flat (y::l)=E.enc y++E.flat l:=fun _ _=>rfl
   have hy:=E.hlen y;rw[hs] at hy;obtain⟨u,hu⟩:=List.length_eq_one_iff.1 hy
   cases i with
   | zero=>rw[List.set_cons_zero,e,e,hu,hv];rfl
   | succ i=>
    rw[List.set_cons_succ,e,e,hu,←ih i];rfl
 exact key l i
theorem OwnR.cell1{E:Elt P α}(hs:E.sz=1){w:World}{base g n c:Nat}{l:List α}(h:OwnR E w base (.slice (some ⟨g,0,none⟩) n c) l){i:Nat}{x:α}(hx:l[i]? = some x){v:Value}(hv:E.enc x=[v]):w.cell? ⟨g,i,none⟩=some v∧w.frozen? ⟨g,i,none⟩=false∧g<w.heap.size:=by
 obtain⟨hi,_⟩:=List.getElem?_eq_some_iff.1 hx;obtain⟨g',cur,e,rfl,hg,hb,h1,h2,h3,h4⟩:=h.blk (by omega);injection e with e
 injection e with e
 subst e;refine⟨?_,hb.frozen_ i,hb.lt⟩;obtain⟨b,off,y,e,_,hy,hc⟩:=h.sr.2.at_ hi;injection e with e
 injection e with e1 e2
 subst e1 e2;rw[hx] at hy
 cases hy
 have:=hc 0 v (by rw[hv];rfl);rw[hs] at this;simpa using this
end
structure MTy (P:Program) (κ ν:Type) where
 t:TypeId
 K:TypeId
 e:TypeId
 ht:P.underlying t=some (.map K e)
 KK:Keyed P K
 kv:κ→Value
 kl:κ→Lit
 okk:κ→Prop
 hkey:∀ k,okk k→keyOf P K (kv k)=some (kl k)
 kvinj:∀ a b,kv a=kv b→a=b
 ev:ν→Value
 dt:ν→DataW Unit
 R:Value→Option (DataW Unit × List MemPlace)
 oke:ν→Prop
 hR:∀ v,oke v→R (ev v)=some (dt v,[])
 hinv:∀ u y,R u=some y→∃ v,u=ev v∧y=(dt v,[])
 dinj:∀ a b,dt a=dt b→a=b
 z:ν
 okz:oke z
 hz:∀ w:World,(zeroValue e).run P w=.ok (ev z) w
section
variable {P : Program} {κ ν : Type} [DecidableEq κ] (T : MTy P κ ν)
theorem MTy.kinj{a b:κ}(ha:T.okk a)(hb:T.okk b)(e:T.kl a=T.kl b):a=b:=T.kvinj _ _ (T.KK.inj (T.hkey a ha) (by rw[T.hkey b hb,e]))
def MapT(w:World)(B n:Nat)(m:κ→Option ν):Prop:=
 ∃ D:DataW Unit,w.ownsMap P T.K T.R B n D∧(∀ x,Go.Maps.has D x=true ↔ ∃ k v,x=T.kl k∧m k=some v)∧∀ k v,m k=some v→T.okk k∧∀ z,D.atKey (T.kl k) z=T.dt v
variable {T} {w w' : World} {B n : Nat} {m : κ → Option ν}
theorem MapT.new_(w:World):MapT T (w.alloc (.map #[] 0)) w.heap.size 0 (fun _=>none):=
 ⟨.map [],World.ownsMap_made _ _ _ _,fun kl=>by simp[Go.Maps.has],fun i v hp=>by cases hp⟩
theorem MapT.lt(h:MapT T w B n m):B<w.heap.size:=by obtain⟨D,h,_⟩:=h;exact h.lt
theorem MapT.below_{C:Nat}(h:MapT T w B n m)(hb:Below C w w')(hB:B<C):MapT T w' B n m:=by
 obtain⟨D,⟨es,clock,h1,h⟩,h2⟩:=h;exact⟨D,⟨es,clock,(hb.block B hB).trans h1,h⟩,h2⟩
theorem MapT.far_(h:MapT T w B n m){p:Addr}(u:Value)(hg:p.block≠B):MapT T (w.setCell p u) B n m:=by
 obtain⟨D,⟨es,clock,h1,h⟩,h2⟩:=h;refine⟨D,⟨es,clock,?_,h⟩,h2⟩
 by_cases hlt:p.block<B
 ·exact(Below.heap_setCell w p u B (by omega)).trans h1
 ·rw[←h1]
  unfold World.setCell;dsimp only;rw[Array.getElem?_modify,if_neg hg]
theorem MapT.ext(h:MapT T w B n m)(hb:Below w.heap.size w w'):MapT T w' B n m:=h.below_ hb h.lt
theorem MapT.look_(h:MapT T w B n m){k:κ}(hk:T.okk k){v:ν}(hv:(m k).getD T.z=v):(Instr.lookup T.t (.map (some B)) (T.kv k) false).run P w=.ok (T.ev v) w:=by
 obtain⟨D,h,h1,h2⟩:=h;obtain⟨u,ps,hrun,hu⟩:=h.lookup T.KK T.ht (T.hz w) (T.hR _ T.okz) (T.hkey k hk);obtain⟨v',rfl,hv'⟩:=T.hinv _ _ hu;injection hv' with hv'
 have:v'=v:=by
  cases hm:m k with
  | none=>
   have hn:Go.Maps.has D (T.kl k)=false:=by
    cases hh:Go.Maps.has D (T.kl k) with
    | false=>rfl
    | true=>
     obtain⟨k',v2,e,hk2⟩:=(h1 _).1 hh;rw[←T.kinj hk (h2 k' v2 hk2).1 e,hm] at hk2
     cases hk2
   rw[Go.Maps.atKey_of_not_has hn] at hv';rw[hm] at hv;rw[←T.dinj _ _ hv'];exact hv
  | some v2=>
   rw[(h2 k v2 hm).2] at hv';rw[hm] at hv;rw[←T.dinj _ _ hv'];exact hv
 rw[this] at hrun;exact hrun
theorem MapT.look_ok(h:MapT T w B n m){k:κ}(hk:T.okk k){v:ν}(hv:(m k).getD T.z=v){b:Bool}(hb:(m k).isSome=b):(Instr.lookup T.t (.map (some B)) (T.kv k) true).run P w=.ok (.tuple #[T.ev v,.bool b]) w:=by
 obtain⟨D,h,h1,h2⟩:=h;obtain⟨u,ps,hrun,hu⟩:=h.look_ok T.KK T.ht (T.hz w) (T.hR _ T.okz) (T.hkey k hk);obtain⟨v',rfl,hv'⟩:=T.hinv _ _ hu;injection hv' with hv'
 have:v'=v∧Go.Maps.has D (T.kl k)=b:=by
  cases hm:m k with
  | none=>
   have hn:Go.Maps.has D (T.kl k)=false:=by
    cases hh:Go.Maps.has D (T.kl k) with
    | false=>rfl
    | true=>
     obtain⟨k',v2,e,hk2⟩:=(h1 _).1 hh;rw[←T.kinj hk (h2 k' v2 hk2).1 e,hm] at hk2
     cases hk2
   rw[Go.Maps.atKey_of_not_has hn] at hv';rw[hm] at hv hb;rw[←T.dinj _ _ hv'];exact⟨hv,hn.trans hb⟩
  | some v2=>
   have hn:Go.Maps.has D (T.kl k)=true:=(h1 _).2 ⟨k,v2,rfl,hm⟩;rw[(h2 k v2 hm).2] at hv';rw[hm] at hv hb;rw[←T.dinj _ _ hv'];exact⟨hv,hn.trans hb⟩
 rw[this.1,this.2] at hrun;exact hrun
theorem MapT.put_{D:DataW Unit}{k:κ}{v:ν}(hk:T.okk k)(ho:w.ownsMap P T.K T.R B n D)
  (h1:∀ x,Go.Maps.has D x=true ↔ ∃ k v,x=T.kl k∧m k=some v) (h2:∀ k v,m k=some v→T.okk k∧∀ z,D.atKey (T.kl k) z=T.dt v) :
  (∀ x,Go.Maps.has (D.put (T.kl k) (T.dt v)) x=true ↔ ∃ j u,x=T.kl j∧(if j=k then some v else m j)=some u)∧∀ j u,(if j=k then some v else m j)=some u→T.okk j∧∀ z,(D.put (T.kl k) (T.dt v)).atKey (T.kl j) z=T.dt u:=by
 have hm:=ho.isMap;have hkk:=T.KK.key (T.hkey k hk);refine⟨fun x => ?_,fun j u hj => ?_⟩
 ·by_cases e:x=T.kl k
  ·subst e
   rw[has_put_same hm hkk];exact⟨fun _=>⟨k,v,rfl,by rw[if_pos rfl]⟩,fun _=>rfl⟩
  ·rw[has_put_other e,h1 x]
   constructor
   ·rintro ⟨j,u,rfl,h⟩
    exact⟨j,u,rfl,by rw[if_neg (fun e'=>e (by rw[e'])),h]⟩
   ·rintro ⟨j,u,rfl,h⟩
    rw[if_neg (fun e'=>e (by rw[e']))] at h;exact⟨j,u,rfl,h⟩
 ·by_cases e:j=k
  ·subst e
   rw[if_pos rfl] at hj
   cases hj
   exact⟨hk,fun z=>by rw[atKey_put_same hm hkk]⟩
  ·rw[if_neg e] at hj
   exact⟨(h2 j u hj).1,fun z=>by rw[atKey_put_other (fun e'=>e (T.kinj (h2 j u hj).1 hk e')),(h2 j u hj).2 z]⟩
theorem MapT.del_{D:DataW Unit}{k:κ}(hk:T.okk k)(h1:∀ x,Go.Maps.has D x=true ↔ ∃ k v,x=T.kl k∧m k=some v)(h2:∀ k v,m k=some v→T.okk k∧∀ z,D.atKey (T.kl k) z=T.dt v) :
  (∀ x,Go.Maps.has (D.del (T.kl k)) x=true ↔ ∃ j u,x=T.kl j∧(if j=k then none else m j)=some u)∧∀ j u,(if j=k then none else m j)=some u→T.okk j∧∀ z,(D.del (T.kl k)).atKey (T.kl j) z=T.dt u:=by
 refine⟨fun x => ?_,fun j u hj => ?_⟩
 ·by_cases e:x=T.kl k
  ·subst e
   rw[has_del_same]
   constructor
   ·intro h;cases h
   ·rintro ⟨j,u,hj,h⟩
    have hne:¬ j=k:=fun e=>by rw[if_pos e] at h;cases h
    rw[if_neg hne] at h;exact absurd (T.kinj (h2 j u h).1 hk hj.symm) hne
  ·rw[has_del_other e,h1 x]
   constructor
   ·rintro ⟨j,u,rfl,h⟩
    exact⟨j,u,rfl,by rw[if_neg (fun e'=>e (by rw[e'])),h]⟩
   ·rintro ⟨j,u,rfl,h⟩
    rw[if_neg (fun e'=>e (by rw[e']))] at h;exact⟨j,u,rfl,h⟩
 ·by_cases e:j=k
  ·subst e;rw[if_pos rfl] at hj;cases hj
  ·rw[if_neg e] at hj
   exact⟨(h2 j u hj).1,fun z=>by rw[atKey_del_other (fun e'=>e (T.kinj (h2 j u hj).1 hk e')),(h2 j u hj).2 z]⟩
theorem MapT.run_put(h:MapT T w B n m)(hn:n<maxLen){k:κ}{v:ν}(hk:T.okk k)(hv:T.oke v) :
  ∃ w',(Instr.mapUpdate T.t (.map (some B)) (T.kv k) (T.ev v)).run P w=.ok () w'∧MapT T w' B (n+1) (fun j=>if j=k then some v else m j)∧w.grownBy w' (some B)∧w'.heap.size=w.heap.size:=by
 obtain⟨D,ho,h1,h2⟩:=h;obtain⟨w',hrun,ho',ht⟩:=ho.store T.KK T.ht hn (T.hkey k hk) (T.hR v hv);refine⟨w',hrun,⟨_,ho',MapT.put_ hk ho h1 h2⟩,ht.grown,?_⟩;obtain⟨es,clock,es',clock',hb,rfl⟩:=ht;simp[Go.ChangeMaps.setBlock]
theorem wpList_putT{ops:Array Oper}{rest:List Oper}{o:Oper}{a:Act}{Z:Exit→Act→World→Prop}(T:MTy P κ ν)(w:World)(hg:o.guard=none)(t:TypeId)(ht:t=T.t)(mo x vo:Operand)(hop:o.op=Op.mapUpdate t mo x vo)
  (B n:Nat) (m:κ→Option ν) (hm:a.eval mo=.map (some B)) (h:MapT T w B n m) (hn:n<maxLen) (k:κ) (v:ν) (hx:a.eval x=T.kv k) (hv:a.eval vo=T.ev v) (hk:T.okk k) (hwf:T.oke v)
  (hK:∀ w',MapT T w' B (n+1) (fun j=>if j=k then some v else m j)→w.grownBy w' (some B)→w'.heap.size=w.heap.size→wpList P ops Z rest (a.put o.dst undef) w'):wpList P ops Z (o::rest) a w:=by
 subst ht
 refine wpList_plain hg fun K' hK' => ?_
 obtain⟨w',hrun,h1,h2,h3⟩:=h.run_put hn hk hwf;unfold Oper.wp;simp[execOp,hop,hm,hx,hv,hrun,Result.andThen];exact hK' _ _ (hK w' h1 h2 h3)
theorem wpList_delT{ops:Array Oper}{rest:List Oper}{o:Oper}{a:Act}{Z:Exit→Act→World→Prop}(T:MTy P κ ν)(w:World)(hg:o.guard=none)(t K:TypeId)(ht:t=T.t)(hK':K=T.K)(mo x:Operand)(hop:o.op=Op.call { callee:=Callee.builtin Builtin.delete,args:=#[mo,x],argTypes:=#[t,K] })
  (B n:Nat) (m:κ→Option ν) (hm:a.eval mo=.map (some B)) (h:MapT T w B n m) (k:κ) (hx:a.eval x=T.kv k) (hk:T.okk k)
  (hK:∀ w',MapT T w' B n (fun j=>if j=k then none else m j)→w.grownBy w' (some B)→w'.heap.size=w.heap.size→wpList P ops Z rest (a.put o.dst (.tuple #[])) w'):wpList P ops Z (o::rest) a w:=by
 subst ht hK';obtain⟨D,ho,h1,h2⟩:=h
 refine wpList_delete_own w hg mo x _ _ hop _ T.KK T.ht _ B n D hm ho _ _ hx (T.hkey k hk) fun w' ho' hg'=>hK w' ⟨_,ho',MapT.del_ hk h1 h2⟩ hg'.grown ?_
 obtain⟨es,clock,es',clock',hb,rfl⟩:=hg';simp[Go.ChangeMaps.setBlock]
def RngT(T:MTy P κ ν)(w:World)(B r n:Nat)(m:κ→Option ν)(left:κ→Bool)(cnt:Nat):Prop:=
 ∃ (D:DataW Unit) (lf:Lit→Bool),w.ranges P T.K T.R B r n D lf cnt∧(∀ k v,m k=some v→T.okk k∧∀ z,D.atKey (T.kl k) z=T.dt v)∧(∀ x,lf x=true→∃ k v,x=T.kl k∧m k=some v∧left k=true)∧∀ k v,m k=some v→left k=true→lf (T.kl k)=true
theorem RngT.left_eq{r cnt:Nat}{left:κ→Bool}(h:RngT T w B r n m left cnt):w.rangeLeft B r=cnt:=by
 obtain⟨D,lf,h,_⟩:=h;exact h.left_eq
theorem RngT.kept{r cnt:Nat}{left:κ→Bool}{row:Option Nat}(h:RngT T w B r n m left cnt)(hg:w.grownBy w' row)(h1:some B≠row)(h2:some r≠row):RngT T w' B r n m left cnt:=by
 obtain⟨D,lf,h,h3⟩:=h;exact⟨D,lf,h.kept hg h1 h2,h3⟩
theorem wpList_rangeT{ops:Array Oper}{rest:List Oper}{o:Oper}{a:Act}{Z:Exit→Act→World→Prop}(T:MTy P κ ν)(w:World)(hg:o.guard=none)(t:TypeId)(ht:t=T.t)(mo:Operand)(hop:o.op=Op.range t mo)
  (B n:Nat) (m:κ→Option ν) (hm:a.eval mo=.map (some B)) (h:MapT T w B n m)
  (hK:∀ w' cnt,RngT T w' B w.heap.size n m (fun _=>true) cnt→w.grownBy w' none→w'.heap.size=w.heap.size+1→wpList P ops Z rest (a.put o.dst (.pointer (some ⟨w.heap.size,0,none⟩))) w'):wpList P ops Z (o::rest) a w:=by
 subst ht;obtain⟨D,ho,h1,h2⟩:=h
 refine wpList_range_own w hg mo _ hop _ _ T.KK T.ht _ B n D hm ho fun w' h3 h4 h5=>hK w' _ ⟨D,_,h3,h2,fun x hx => ?_,fun k v hk _=>(h1 _).2 ⟨k,v,rfl,hk⟩⟩ h4 h5
 obtain⟨k,v,e,hk⟩:=(h1 x).1 hx;exact⟨k,v,e,hk,rfl⟩
theorem wpList_nextT{ops:Array Oper}{rest:List Oper}{o:Oper}{a:Act}{Z:Exit→Act→World→Prop}(T:MTy P κ ν)(w:World)(hg:o.guard=none)(it:Operand)(hop:o.op=Op.next it false)
  (B r n:Nat) (m:κ→Option ν) (left:κ→Bool) (cnt:Nat) (kinv:∀ key l,keyOf P T.K key=some l→∃ k,key=T.kv k) (hit:a.eval it=.pointer (some ⟨r,0,none⟩)) (h:RngT T w B r n m left cnt)
  (hDone:(∀ k v,m k=some v→left k=false)→wpList P ops Z rest (a.put o.dst (.tuple #[.bool false])) w)
  (hMore:∀ (k:κ) (v:ν) (w':World) (cnt':Nat),m k=some v→left k=true→RngT T w' B r n m (fun j=>left j && !decide (j=k)) cnt'→cnt'<cnt→w.grownBy w' (some r)→w'.heap.size=w.heap.size →
   (Instr.entry (.pointer (some ⟨r,0,none⟩))).run P w'=.ok (.tuple #[T.kv k,T.ev v]) w'→wpList P ops Z rest (a.put o.dst (.tuple #[.bool true,T.kv k,T.ev v])) w'):wpList P ops Z (o::rest) a w:=by
 obtain⟨D,lf,h,h2,h3,h4⟩:=h
 refine wpList_next_ranges w hg it hop T.K T.KK T.R T.kv T.ev (fun key kl hkey => ?_) (fun v y hv => ?_) B r n D lf cnt hit h (fun _ hn=>hDone fun k v hk => ?_) (fun x c kl y w' cnt' hkey hlk hv hat hrg hlt hgr hsz hen => ?_)
 ·exact kinv _ _ hkey
 ·obtain⟨v',e,_⟩:=T.hinv _ _ hv
  exact⟨v',e⟩
 ·cases hl:left k with
  | false=>rfl
  | true=>
   have:=h4 k v hk hl;rw[hn] at this
   cases this
 ·obtain⟨k,v,rfl,hk,hl⟩:=h3 kl hlk
  have hok:=(h2 k v hk).1;obtain rfl:x=k:=T.kvinj _ _ (T.KK.inj hkey (T.hkey k hok));obtain⟨v',e2,e3⟩:=T.hinv _ _ hv;have hd:=hat (T.dt v);rw[(h2 x v hk).2,e3] at hd;have:=T.dinj _ _ hd;subst this;rw[e2] at hen ⊢;have hself:(T.kl x).sameKey (T.kl x)=true:=WideAt.sameKey_self (T.KK.key hkey);refine hMore x v w' cnt' hk hl ⟨D,_,hrg,h2,fun y hy => ?_,fun j u hj hjl => ?_⟩ hlt hgr hsz hen
  ·simp only[Bool.and_eq_true,Bool.not_eq_true'] at hy
   obtain⟨j,u,rfl,hj,hjl⟩:=h3 y hy.1;refine⟨j,u,rfl,hj,?_⟩;simp only[hjl,Bool.true_and,Bool.not_eq_true',decide_eq_false_iff_not];rintro rfl;rw[hself] at hy
   cases hy.2
  ·simp only[Bool.and_eq_true,Bool.not_eq_true',decide_eq_false_iff_not] at hjl ⊢
   refine⟨h4 j u hj hjl.1,?_⟩
   cases hs:(T.kl j).sameKey (T.kl x) with
   | false=>rfl
   | true=>exact absurd (T.kinj (h2 j u hj).1 hok (WideAt.sameKey_eq hs)) hjl.2
end
def putN(x i:Nat)(b:Bool):Nat:=if b then x ||| 2 ^ i else offN x (2 ^ i)
theorem putN_lt{x i:Nat}{b:Bool}(hx:x<18446744073709551616)(hi:i<64):putN x i b<18446744073709551616:=by
 have h2:2 ^ i<2 ^ 64:=Nat.pow_lt_pow_right (a:=2) (by decide) hi;unfold putN
 cases b
 ·exact offN_lt _ _ hx
 ·exact Nat.or_lt_two_pow (n:=64) hx h2
theorem putN_bit{x i:Nat}{b:Bool}(hx:x<18446744073709551616)(j:Nat):(putN x i b).testBit j=if j=i then b else x.testBit j:=by
 unfold putN
 cases b
 ·rw[if_neg (by simp),offN_bit _ _ _ hx,Nat.testBit_two_pow]
  by_cases e:j=i
  ·subst e;simp
  ·rw[if_neg e]
   have:¬ i=j:=fun h=>e h.symm
   simp[this]
 ·rw[if_pos rfl,Nat.testBit_or,Nat.testBit_two_pow]
  by_cases e:j=i
  ·subst e;simp
  ·rw[if_neg e]
   have:¬ i=j:=fun h=>e h.symm
   simp[this]
theorem has_any(b off x i:Nat)(w:World)(hc:w.cell? ⟨b,off,none⟩=some (.int .u64 x))(hx:x<18446744073709551616)(hi:i<64)(hbl:b<w.heap.size) :
  Calls Tryz.prog 182 #[.pointer (some ⟨b,off,none⟩),.int .i64 i] w fun e w'=>e=.returned (.bool (x.testBit i))∧w=w':=by
 have hd:((i:Int)).tdiv 64=0:=by rw[Int.tdiv_eq_ediv_of_nonneg (by omega)];omega
 have hm:((i:Int)).tmod 64=i:=by rw[Int.tmod_eq_emod_of_nonneg (by omega)];omega
 have hw3:IntKind.u64.wrap (i:Int)=i:=by rw[IntKind.wrap_u64];omega
 have hw4:min ((i:Int)).toNat 64=i:=by omega
 go_enter Tryz.func182,Tryz.ntmps182
 go_wp2_with fail;go_ret;refine⟨ret_bool ?_,rfl⟩;rw[show (x:Int) / 2 ^ i=((x / 2 ^ i:Nat):Int) by simp,show (1:Int)=((1:Nat):Int) from rfl,bits_and_u64_nat _ _ (Nat.lt_of_le_of_lt (Nat.div_le_self _ _) hx) (by decide),←and_one'];rw[Bool.eq_iff_iff];simp only[bne_iff_ne];omega
theorem put_any(b off x i:Nat)(v:Bool)(w:World)(hc:w.cell? ⟨b,off,none⟩=some (.int .u64 x))(hf:w.frozen? ⟨b,off,none⟩=false)(hx:x<18446744073709551616)(hi:i<64)(hbl:b<w.heap.size) :
  Calls Tryz.prog 159 #[.pointer (some ⟨b,off,none⟩),.int .i64 i,.bool v] w fun e w'=>e=.returned (.tuple #[])∧∃ w1,Below w.heap.size w w1∧w'=w1.setCell ⟨b,off,none⟩ (.int .u64 (putN x i v)):=by
 have hd:((i:Int)).tdiv 64=0:=by rw[Int.tdiv_eq_ediv_of_nonneg (by omega)];omega
 have hm:((i:Int)).tmod 64=i:=by rw[Int.tmod_eq_emod_of_nonneg (by omega)];omega
 have hw3:IntKind.u64.wrap (i:Int)=i:=by rw[IntKind.wrap_u64];omega
 have hw4:min ((i:Int)).toNat 64=i:=by omega
 have h2l:2 ^ i<18446744073709551616:=Nat.pow_lt_pow_right (a:=2) (n:=64) (by decide) hi;have h2r:(2:Int) ^ i=((2 ^ i:Nat):Int):=by simp
 have hw5:IntKind.u64.wrap ((2:Int) ^ i)=(2:Int) ^ i:=by rw[h2r,IntKind.wrap_u64];generalize (2:Nat) ^ i=p at h2l;omega
 obtain⟨y,hy⟩:∃ y,putN x i v=y:=⟨_,rfl⟩;have HC:=Lib.hid hc;have HF:=Lib.hid hf
 cases v
 ·have hbo:bits BinOp.andNot IntKind.u64 (x:Int) ((2:Int) ^ i)=(y:Int):=by rw[h2r,bits_off_u64_nat _ _ hx h2l,←hy];rfl
  rw[hy];clear hc hf h2r h2l hy
  go_enter Tryz.func159,Tryz.ntmps159
  go_wp2_with fail;refine zrg [0,0,0,0,0,1,0,0,0,0,3] [[],[],[],[],[],[],[],[],[],[],[]] [.is ?_,.is ?_,.is (.int .i64 0),.is ?_,.is ?_,.kn ?_,.is ?_,.is (.int .u64 (y:Int)),.is ?_,.is ?_,.late] [10] (lts_is (lts_is (lts_is (lts_is (lts_is (lts_kn (lts_is (lts_is (lts_is (lts_is (lts_late lts_nil))))))))))) (fun W0 hb0 hz0 => ?_)
  rotate_left 8
  have p0:=cell_keep hb0 HC.out hbl;have pf:=frozen_keep hb0 HF.out hbl;have zW:=Nat.lt_of_lt_of_le hbl hb0.size;refine zqp ?_;refine zqp ?_;refine zqP (fun w => ?_) ?_
  ·go_simp
   first | done | rfl
  refine zqp ?_;refine zqp ?_;refine zqT (fun w hbw hd => ?_) ?_
  ·have q1:=cell_keep hbw p0 zW
   exact zgs
  refine zqp ?_;refine zqP (fun w => ?_) ?_
  ·go_simp
   first | done | rfl
  refine zqp ?_;refine zqp ?_;refine zql ?_;refine chn_end (fun wz lo hi hbz hd hR => ?_);have p1:=cell_keep hbz p0 zW;have f1:=frozen_keep hbz pf zW;have hsz:=hb0.size;have hsz2:=hbz.size;have hbz2:=hb0.trans (hbz.mono hsz);clear hd hR p0 pf;refine late_one (by simp only[zy5,zy6,zy7];rfl) (fun K Q' hK => ?_);go_simp;refine hK.out _ ?_;clear hK K Q';go_wp2_with fail;refine bodyPost_end (results_none rfl _ _ _) rfl ?_;exact⟨rfl,wz,hbz2,rfl⟩
 ·have hbo:bits BinOp.or IntKind.u64 (x:Int) ((2:Int) ^ i)=(y:Int):=by rw[h2r,bits_or_u64_nat _ _ hx h2l,←hy];rfl
  rw[hy];clear hc hf h2r h2l hy
  go_enter Tryz.func159,Tryz.ntmps159
  go_wp2_with fail;refine zrg [0,0,0,0,0,1,0,0,0,0,3] [[],[],[],[],[],[],[],[],[],[],[]] [.is ?_,.is ?_,.is (.int .i64 0),.is ?_,.is ?_,.kn ?_,.is ?_,.is (.int .u64 (y:Int)),.is ?_,.is ?_,.late] [10] (lts_is (lts_is (lts_is (lts_is (lts_is (lts_kn (lts_is (lts_is (lts_is (lts_is (lts_late lts_nil))))))))))) (fun W0 hb0 hz0 => ?_)
  rotate_left 8
  have p0:=cell_keep hb0 HC.out hbl;have pf:=frozen_keep hb0 HF.out hbl;have zW:=Nat.lt_of_lt_of_le hbl hb0.size;refine zqp ?_;refine zqp ?_;refine zqP (fun w => ?_) ?_
  ·go_simp
   first | done | rfl
  refine zqp ?_;refine zqp ?_;refine zqT (fun w hbw hd => ?_) ?_
  ·have q1:=cell_keep hbw p0 zW
   exact zgs
  refine zqp ?_;refine zqP (fun w => ?_) ?_
  ·go_simp
   first | done | rfl
  refine zqp ?_;refine zqp ?_;refine zql ?_;refine chn_end (fun wz lo hi hbz hd hR => ?_);have p1:=cell_keep hbz p0 zW;have f1:=frozen_keep hbz pf zW;have hsz:=hb0.size;have hsz2:=hbz.size;have hbz2:=hb0.trans (hbz.mono hsz);clear hd hR p0 pf;refine late_one (by simp only[zy5,zy6,zy7];rfl) (fun K Q' hK => ?_);go_simp;refine hK.out _ ?_;clear hK K Q';go_wp2_with fail;refine bodyPost_end (results_none rfl _ _ _) rfl ?_;exact⟨rfl,wz,hbz2,rfl⟩
def wtL(l:List Wr):List (Int × Int):=(l.filter fun v=>decide (v.2.2≠0)).map fun v=>(v.2.2,v.1)
theorem wtW_eq(s:Swp):wtW s=wtL s.wr++wtL s.rd:=by unfold wtW wtL;rw[List.filter_append,List.map_append]
theorem wtL_mem{l:List Wr}{x:Int × Int}:x ∈ wtL l ↔ ∃ v ∈ l,v.2.2=x.1∧v.1=x.2∧x.1≠0:=by
 unfold wtL;simp only[List.mem_map,List.mem_filter,decide_eq_true_eq]
 constructor
 ·rintro ⟨v,⟨h1,h2⟩,rfl⟩;exact⟨v,h1,rfl,rfl,h2⟩
 ·rintro ⟨v,h1,h2,h3,h4⟩;exact⟨v,⟨h1,by rw[h2];exact h4⟩,Prod.ext h2 h3⟩
theorem jvs_mem{js:List Jb}{w:Bool}{x:Int × Int}:x ∈ jvs js w ↔ ∃ j ∈ js,j.wr=w∧j.slot=x.1∧j.frame=x.2:=by
 unfold jvs;simp only[List.mem_map,List.mem_filter,beq_iff_eq]
 constructor
 ·rintro ⟨v,⟨h1,h2⟩,rfl⟩;exact⟨v,h1,h2,rfl,rfl⟩
 ·rintro ⟨v,h1,h2,h3,h4⟩;exact⟨v,⟨h1,h2⟩,Prod.ext h3 h4⟩
theorem vvs_mem{l:List Wr}{x:Int × Int}:x ∈ vvs l ↔ ∃ v ∈ l,v.1=x.1∧v.2.1=x.2:=by
 unfold vvs;simp only[List.mem_map]
 constructor
 ·rintro ⟨v,h1,rfl⟩;exact⟨v,h1,rfl,rfl⟩
 ·rintro ⟨v,h1,h3,h4⟩;exact⟨v,h1,Prod.ext h3 h4⟩
theorem jvs_app(a b:List Jb)(w:Bool):jvs (a++b) w=jvs a w++jvs b w:=by unfold jvs;rw[List.filter_append,List.map_append]
theorem vvs_app(a b:List Wr):vvs (a++b)=vvs a++vvs b:=by unfold vvs;rw[List.map_append]
theorem vvs_apart{js:List Jb}{w:Bool}{vs:List Wr}(hp:js.Pairwise fun j k=>j.slot≠k.slot∧j.frame≠k.frame)(hm:jvs js w=vvs vs):vs.Pairwise fun x y=>x.1≠y.1∧x.2.1≠y.2.1:=by
 have h1:(jvs js w).Pairwise fun x y=>x.1≠y.1∧x.2≠y.2:=by
  unfold jvs;rw[List.pairwise_map];exact hp.filter _
 rw[hm] at h1;unfold vvs at h1;rw[List.pairwise_map] at h1;exact h1
theorem valid_of{d:Dsk}{vs:List Wr}(hl:vs.length≤16)(hd:OkD d)(hm:jvs d.jobs true=vvs vs)(hn:((wtL vs).map (·.1)).Nodup)(hr:∀ x ∈ wtL vs,1≤x.1∧x.1≤8):Valid vs:=by
 refine⟨hl,fun x hx => ?_,?_⟩
 ·obtain⟨j,hj,_,e1,e2⟩:=jvs_mem.1 (hm ▸ vvs_mem.2 ⟨x,hx,rfl,rfl⟩:(x.1,x.2.1) ∈ jvs d.jobs true)
  have:=hd.inr j hj;have:=hd.cells;dsimp only at e1 e2;unfold okW;simp only[Bool.and_eq_true,Bool.or_eq_true,decide_eq_true_eq];refine⟨by omega,by omega,?_⟩
  by_cases h0:x.2.2=0
  ·exact .inl h0
  ·exact .inr (hr (x.2.2,x.1) (wtL_mem.2 ⟨x,hx,rfl,rfl,h0⟩))
 ·have h1:=vvs_apart hd.apart hm
  have h2:vs.Pairwise fun x y=>decide (x.2.2≠0)=true→decide (y.2.2≠0)=true→x.2.2≠y.2.2:=by
   unfold wtL at hn;rw[List.map_map] at hn;unfold List.Nodup at hn;rw[List.pairwise_map] at hn;exact List.pairwise_filter.1 hn
  refine (h1.and h2).imp fun {x y} h=>⟨h.1.1,h.1.2,?_⟩
  by_cases hy:y.2.2=0
  ·exact .inl hy
  ·by_cases hx:x.2.2=0
   ·right;omega
   ·exact .inr (h.2 (by simpa using hx) (by simpa using hy))
theorem OkS.of{s:Swp}(cap:1≤s.cap∧s.cap≤16)(sl:OkT s.sl)(dk:OkD s.dk)(po:OkP s.po)(len:s.sl.refs.length=s.dk.cells.length)(room:s.dk.room=s.po.size)(few:(s.wr.length:Int)≤s.cap)
  (mw:jvs s.dk.jobs true=vvs s.wr) (mr:jvs s.dk.jobs false=vvs s.rd) (busy:s.sl.busy=(List.range s.sl.busy.length).map (bsW s.dk.jobs)) (dlen:s.desc.length=s.dk.jobs.length) (tlen:(tknP s.po).length=s.desc.length)
  (tmem:∀ d ∈ tknP s.po,d ∈ s.desc) (wts:((wtW s).map (·.1)).Nodup) (wtr:∀ x ∈ wtW s,1≤x.1∧x.1≤8) (wtp:∀ x ∈ wtW s,0<refT s.sl x.2.toNat):OkS s:=
 ⟨cap,sl,valid_of (by omega) dk mw (by rw[wtW_eq,List.map_append] at wts;exact(List.nodup_append.1 wts).1) (fun x hx=>wtr x (by rw[wtW_eq];exact List.mem_append_left _ hx)),dk,po,len,room,few,mw,mr,busy,dlen,tlen,tmem,wts,wtr,wtp⟩
theorem bsyT_eq{s:Swp}(h:OkS s){i:Nat}(hi:i<s.sl.refs.length):bsyT s.sl i=bsW s.dk.jobs i:=by
 unfold bsyT;have hb:=h.sl.blen;rw[h.busy,List.getD_eq_getElem?_getD,List.getElem?_map,List.getElem?_range (by omega)];rfl
theorem bsW_no{js:List Jb}{i:Nat}:bsW js i=false ↔ ∀ k ∈ js,k.slot≠i:=by
 unfold bsW;rw[List.any_eq_false];simp
theorem bsW_yes{js:List Jb}{i:Nat}:bsW js i=true ↔ ∃ k ∈ js,k.slot=i:=by
 unfold bsW;rw[List.any_eq_true];simp
theorem usW_no{s:Swp}{f:Int}:usW s f=false ↔ ∀ k ∈ s.dk.jobs,k.frame≠f:=by
 unfold usW;rw[List.any_eq_false];simp
theorem fstT_some{s:Sts}{i:Nat}(h:fstT s=some i):i<s.refs.length∧refT s i=0∧bsyT s i=false:=by
 unfold fstT at h;have h1:=List.find?_some h;have h2:=List.mem_range.1 (List.mem_of_find?_eq_some h);unfold freT at h1;simp only[Bool.and_eq_true,decide_eq_true_eq,Bool.not_eq_true'] at h1;exact⟨h2,h1⟩
theorem hinW_nil{s:Swp}:hinW s=[]↔(s.wr.length:Int)<s.cap∧(s.dk.jobs.length:Int)<s.dk.room∧(fstT s.sl).isSome=true:=by
 unfold hinW
 cases hf:fstT s.sl with
 | none=>by_cases h1:s.cap≤s.wr.length <;> by_cases h2:s.dk.room≤s.dk.jobs.length <;> simp[h1,h2]
 | some i=>
  by_cases h1:s.cap≤s.wr.length <;> by_cases h2:s.dk.room≤s.dk.jobs.length <;> simp[h1,h2] <;> omega
theorem witT_ok{s:Sts}(h:OkT s)(i:Nat){r:Int}(hr:0≤r∧r≤512)(b:Bool):OkT (witT s i r b):=by
 refine⟨by simpa [witT] using h.len,by simp[witT,h.blen],fun x hx => ?_⟩
 rcases List.mem_or_eq_of_mem_set hx with hx | rfl
 ·exact h.range x hx
 ·exact hr
theorem refT_wit{s:Sts}{i k:Nat}{r:Int}{b:Bool}(hi:i<s.refs.length):refT (witT s i r b) k=if k=i then r else refT s k:=by
 unfold refT witT;simp only[List.getD_eq_getElem?_getD,List.getElem?_set]
 by_cases e:k=i
 ·subst e;simp[hi]
 ·rw[if_neg e,if_neg (fun h=>e h.symm)]
theorem busy_set{s:Swp}(h:OkS s){js:List Jb}{i:Nat}{b:Bool}(hi:i<s.sl.refs.length)(hb:bsW js i=b)(ho:∀ k,k≠i→bsW js k=bsW s.dk.jobs k)(r:Int) :
  (witT s.sl i r b).busy=(List.range (witT s.sl i r b).busy.length).map (bsW js):=by
 have hl:=h.sl.blen
 refine List.ext_getElem (by simp) fun k h1 h2 => ?_
 simp only[witT,List.length_set] at h1;simp only[witT,List.getElem_set,List.getElem_map,List.getElem_range]
 by_cases e:i=k
 ·subst e;rw[if_pos rfl,hb]
 ·rw[if_neg e,ho k (fun h=>e h.symm),←bsyT_eq h (by omega)]
  unfold bsyT;rw[List.getD_eq_getElem?_getD,List.getElem?_eq_getElem h1];rfl
theorem OkD.add_{d:Dsk}(h:OkD d){j:Jb}(hin:0≤j.slot∧j.slot<d.cells.length∧0≤j.frame∧j.frame<256)(hno:∀ k ∈ d.jobs,k.slot≠j.slot∧k.frame≠j.frame)(hr:(d.jobs.length:Int)<d.room)(hc:j.wr=false→j.data=.zero) :
  addD d j=(⟨d.cells,d.jobs++[j],d.room⟩,0)∧OkD ⟨d.cells,d.jobs++[j],d.room⟩:=by
 constructor
 ·unfold addD
  have h1:inD d j.slot j.frame=true:=by unfold inD;simpa using hin
  rw[chkD_zero h,if_neg (by simp),h1,if_neg (by simp),hitD_no.2 hno,if_neg (by simp),if_neg (by omega)]
 ·refine⟨h.cells,h.room,by simp;omega,fun k hk => ?_,?_,fun k hk => ?_⟩
  ·rcases List.mem_append.1 hk with hk | hk
   ·exact h.inr k hk
   ·simp at hk;subst hk;exact hin
  ·dsimp only
   rw[List.pairwise_append];refine⟨h.apart,by simp,fun k hk x hx => ?_⟩;simp at hx;subst hx;exact hno k hk
  ·rcases List.mem_append.1 hk with hk | hk
   ·exact h.clean k hk
   ·simp at hk;subst hk;exact hc
theorem OkS.room_{s:Swp}(h:OkS s)(hj:(s.dk.jobs.length:Int)<s.dk.room):∃ d l,s.po.free=d::l:=by
 have h1:=tkn_free h.po;have h2:=h.tlen;have h3:=h.dlen;have h4:=h.room
 cases hf:s.po.free with
 | nil=>rw[hf] at h1;simp at h1;omega
 | cons d l=>exact⟨d,l,rfl⟩
theorem wrt_parts{s:Swp}(h:OkS s){f r:Int}(c:Ct)(hf:frW f=true)(hr:1≤r∧r≤512)(hu:usW s f=false)(hh:hinW s=[]):∃ (i:Nat) (d:Int) (l:List Int),i<s.sl.refs.length∧bsyT s.sl i=false∧refT s.sl i=0∧fstT s.sl=some i∧s.po.free=d::l ∧
  alcT s.sl r=(witT s.sl i r true,(i:Int),0)∧addD s.dk ⟨true,i,f,c⟩=(⟨s.dk.cells,s.dk.jobs++[⟨true,i,f,c⟩],s.dk.room⟩,0)∧addS s.wr i f=(s.wr++[((i:Int),f,0)],0)∧tkP s.po=(⟨s.po.size,l⟩,d,0) ∧
  OkD ⟨s.dk.cells,s.dk.jobs++[⟨true,i,f,c⟩],s.dk.room⟩:=by
 obtain⟨h1,h2,h3⟩:=hinW_nil.1 hh;obtain⟨i,hi⟩:=Option.isSome_iff_exists.1 h3;obtain⟨hi1,hi2,hi3⟩:=fstT_some hi;obtain⟨d,l,hd⟩:=h.room_ h2;have hf':0≤f∧f<256:=by unfold frW at hf;simpa using hf
 have hns:=bsW_no.1 ((bsyT_eq h hi1).symm.trans hi3);have hnf:=usW_no.1 hu;have hl:=h.len;have hc:=h.dk.cells;obtain⟨a1,a2⟩:=h.dk.add_ (j:=⟨true,i,f,c⟩) ⟨by dsimp only;omega,by dsimp only;omega,hf'⟩ (fun k hk=>⟨hns k hk,hnf k hk⟩) h2 (by simp);refine⟨i,d,l,hi1,hi3,hi2,hi,hd,?_,a1,?_,(tkP_ok h.po hd).1,a2⟩
 ·unfold alcT
  rw[chkT_zero h.sl,if_neg (by simp),if_neg (by omega),hi]
 ·have hhit:hit s.wr ((i:Int),f,0)=false:=by
   rw[hit_apart];intro y hy;obtain⟨j,hj,_,e1,e2⟩:=jvs_mem.1 (h.mw ▸ vvs_mem.2 ⟨y,hy,rfl,rfl⟩:(y.1,y.2.1) ∈ jvs s.dk.jobs true);dsimp only at e1 e2;exact⟨by rw[←e1];exact hns j hj,by rw[←e2];exact hnf j hj,.inl rfl⟩
  have:=h.cap;unfold addS;rw[chkS_zero h.wr,if_neg (by simp),if_pos ⟨by omega,hf'⟩,hhit,if_neg (by simp),if_neg (by omega)]
theorem askW_zero{s:Swp}{n p:Int}:askW s n p=0↔(0≤n∧n<s.sl.refs.length∧1≤p∧p≤8)∧(∀ x ∈ wtW s,x.1≠p)∧refT s.sl n.toNat≠0:=by
 unfold askW
 by_cases h1:n<0∨s.sl.refs.length≤n∨p<1∨8<p
 ·rw[if_pos h1]
  constructor
  ·intro h;simp at h
  ·intro h;omega
 ·rw[if_neg h1]
  by_cases h2:(wtW s).any (fun x=>decide (x.1=p))=true
  ·rw[if_pos h2]
   constructor
   ·intro h;simp at h
   ·rintro ⟨_,h,_⟩
    obtain⟨x,hx,he⟩:=List.any_eq_true.1 h2;exact absurd (by simpa using he) (h x hx)
  ·rw[if_neg h2]
   have h3:∀ x ∈ wtW s,x.1≠p:=fun x hx he=>h2 (List.any_eq_true.2 ⟨x,hx,by simpa using he⟩)
   by_cases h4:refT s.sl n.toNat=0
   ·rw[if_pos h4]
    constructor
    ·intro h;simp at h
    ·rintro ⟨_,_,h⟩;exact absurd h4 h
   ·rw[if_neg h4]
    exact⟨fun _=>⟨by omega,h3,h4⟩,fun _=>rfl⟩
theorem refT_range{s:Swp}(h:OkS s)(i:Nat):0≤refT s.sl i∧refT s.sl i≤512:=by
 unfold refT;rw[List.getD_eq_getElem?_getD]
 cases hx:s.sl.refs[i]? with
 | none=>simp
 | some x=>exact h.sl.range x (List.mem_of_getElem? hx)
theorem askT_zero{s:Sts}(h:OkT s){n:Int}:askT s n=0↔0≤n∧n<s.refs.length:=by
 unfold askT;rw[chkT_zero h,if_neg (by simp)]
 by_cases h1:n<0∨s.refs.length≤n
 ·rw[if_pos h1]
  constructor
  ·intro h;simp at h
  ·intro h;omega
 ·rw[if_neg h1]
  exact⟨fun _=>by omega,fun _=>rfl⟩
theorem addT_zero{s:Sts}(h:OkT s){n:Int}(h0:(addT s n).2=0):(0≤n∧n<s.refs.length)∧freT s n.toNat=false∧refT s n.toNat<512∧(addT s n).1=witT s n.toNat (refT s n.toNat+1) (bsyT s n.toNat):=by
 unfold addT at h0 ⊢
 by_cases h1:askT s n≠0
 ·rw[if_pos h1] at h0;exact absurd h0 h1
 ·rw[if_neg h1] at h0 ⊢
  cases h2:freT s n.toNat with
  | true=>rw[h2,if_pos rfl] at h0;simp at h0
  | false=>
   rw[h2,if_neg (by simp)] at h0
   by_cases h3:512≤refT s n.toNat
   ·rw[if_pos h3] at h0;simp at h0
   ·rw[if_neg (by simp),if_neg h3]
    exact⟨(askT_zero h).1 (by simpa using h1),rfl,by omega,rfl⟩
theorem unrT_zero{s:Sts}(h:OkT s){n:Int}(h0:(unrT s n).2.2=0):(0≤n∧n<s.refs.length)∧refT s n.toNat≠0∧(unrT s n).1=witT s n.toNat (refT s n.toNat - 1) (bsyT s n.toNat):=by
 unfold unrT at h0 ⊢
 by_cases h1:askT s n≠0
 ·rw[if_pos h1] at h0;exact absurd h0 h1
 ·rw[if_neg h1] at h0 ⊢
  by_cases h3:refT s n.toNat=0
  ·rw[if_pos h3] at h0;simp at h0
  ·rw[if_neg h3]
   exact⟨(askT_zero h).1 (by simpa using h1),h3,rfl⟩
theorem wt_slot{s:Swp}(h:OkS s){x:Int × Int}(hx:x ∈ wtW s):0≤x.2∧x.2<s.sl.refs.length:=by
 have hl:=h.len;rw[wtW_eq] at hx
 rcases List.mem_append.1 hx with hx | hx
 ·obtain⟨v,hv,e1,e2,_⟩:=wtL_mem.1 hx
  obtain⟨j,hj,_,e3,e4⟩:=jvs_mem.1 (h.mw ▸ vvs_mem.2 ⟨v,hv,rfl,rfl⟩:(v.1,v.2.1) ∈ jvs s.dk.jobs true);have:=h.dk.inr j hj;dsimp only at e3;omega
 ·obtain⟨v,hv,e1,e2,_⟩:=wtL_mem.1 hx
  obtain⟨j,hj,_,e3,e4⟩:=jvs_mem.1 (h.mr ▸ vvs_mem.2 ⟨v,hv,rfl,rfl⟩:(v.1,v.2.1) ∈ jvs s.dk.jobs false);have:=h.dk.inr j hj;dsimp only at e3;omega
theorem job_at{js:List Jb}(hp:js.Pairwise fun j k=>j.slot≠k.slot∧j.frame≠k.frame){a b:Nat}(ha:a<js.length)(hb:b<js.length)(e:js[a].slot=js[b].slot):a=b:=by
 have h:=List.pairwise_iff_getElem.1 hp
 rcases Nat.lt_trichotomy a b with h1 | h1 | h1
 ·exact absurd e (h a b ha hb h1).1
 ·exact h1
 ·exact absurd e.symm (h b a hb ha h1).1
theorem job_eq{js:List Jb}(hp:js.Pairwise fun j k=>j.slot≠k.slot∧j.frame≠k.frame){j k:Jb}(hj:j ∈ js)(hk:k ∈ js)(e:j.slot=k.slot):j=k:=by
 obtain⟨a,ha,rfl⟩:=List.mem_iff_getElem.1 hj;obtain⟨b,hb,rfl⟩:=List.mem_iff_getElem.1 hk;have:=job_at hp ha hb e;subst this;rfl
theorem erase_out{js:List Jb}(hp:js.Pairwise fun j k=>j.slot≠k.slot∧j.frame≠k.frame){n:Nat}{j:Jb}(hj:js[n]? = some j):js.eraseIdx n=js.filter fun k=>decide (k.slot≠j.slot):=by
 obtain⟨hi,hy⟩:=List.getElem?_eq_some_iff.1 hj;have e:js.take n++j::js.drop (n+1)=js:=by rw[←hy,←List.drop_eq_getElem_cons hi,List.take_append_drop]
 rw[List.eraseIdx_eq_take_drop_succ]
 generalize js.take n=p at e ⊢
 generalize js.drop (n+1)=q at e ⊢
 subst e;rw[List.pairwise_append] at hp;obtain⟨_,h2,h3⟩:=hp;rw[List.pairwise_cons] at h2;rw[List.filter_append,List.filter_cons_of_neg (by simp),List.filter_eq_self.2 (fun z hz => ?_),List.filter_eq_self.2 (fun z hz => ?_)]
 ·have:=(h2.1 z hz).1
  simpa using fun e=>this e.symm
 ·have:=(h3 z hz j (by simp)).1
  simpa using this
theorem jvs_out(js:List Jb)(w:Bool)(a:Int):jvs (js.filter fun k=>decide (k.slot≠a)) w=(jvs js w).filter fun x=>decide (x.1≠a):=by
 unfold jvs;rw[List.filter_map,List.filter_filter,List.filter_filter]
 congr 1
 refine List.filter_congr fun x _ => ?_
 simp[Bool.and_comm]
theorem vvs_out(l:List Wr)(a:Int):vvs (outW l a)=(vvs l).filter fun x=>decide (x.1≠a):=by
 unfold vvs outW;rw[List.filter_map];rfl
theorem wtL_out(l:List Wr)(a:Int):wtL (outW l a)=(wtL l).filter fun x=>decide (x.2≠a):=by
 unfold wtL outW;rw[List.filter_map,List.filter_filter,List.filter_filter]
 congr 1
 refine List.filter_congr fun x _ => ?_
 simp[Bool.and_comm]
theorem outW_id{l:List Wr}{a:Int}(h:∀ v ∈ l,v.1≠a):outW l a=l:=by
 unfold outW;rw[List.filter_eq_self];intro v hv;simpa using h v hv
theorem job_view{js:List Jb}{vs:List Wr}{w:Bool}(hm:jvs js w=vvs vs){j:Jb}(hj:j ∈ js)(hw:j.wr=w):∃ v ∈ vs,v.1=j.slot∧v.2.1=j.frame:=
 vvs_mem.1 (hm ▸ jvs_mem.2 ⟨j,hj,hw,rfl,rfl⟩:(j.slot,j.frame) ∈ vvs vs)
theorem other_view{js:List Jb}{vs:List Wr}{w:Bool}(hp:js.Pairwise fun j k=>j.slot≠k.slot∧j.frame≠k.frame)(hm:jvs js w=vvs vs){j:Jb}(hj:j ∈ js)(hw:j.wr≠w):∀ v ∈ vs,v.1≠j.slot:=by
 intro v hv e;obtain⟨k,hk,hkw,e1,_⟩:=jvs_mem.1 (hm ▸ vvs_mem.2 ⟨v,hv,rfl,rfl⟩:(v.1,v.2.1) ∈ jvs js w);dsimp only at e1;have:=job_eq hp hk hj (e1.trans e);subst this;exact hw hkw
def dnJ(d:Dsk)(j:Jb):Jb:=if j.wr then j else { j with data:=d.cells.getD j.slot.toNat .zero }
def cmC(d:Dsk)(j:Jb):List Ct:=if j.wr then d.cells.set j.slot.toNat j.data else d.cells
theorem dnJ_wr(d:Dsk)(j:Jb):(dnJ d j).wr=j.wr∧(dnJ d j).slot=j.slot∧(dnJ d j).frame=j.frame:=by
 unfold dnJ
 split <;> exact⟨rfl,rfl,rfl⟩
theorem cmC_len(d:Dsk)(j:Jb):(cmC d j).length=d.cells.length:=by
 unfold cmC
 split <;> simp
theorem cmpD_ok{d:Dsk}(h:OkD d){n:Int}{j:Jb}(h0:0≤n)(hj:d.jobs[n.toNat]? = some j):cmpD d n=(⟨cmC d j,d.jobs.filter fun k=>decide (k.slot≠j.slot),d.room⟩,dnJ d j,0)∧OkD ⟨cmC d j,d.jobs.filter fun k=>decide (k.slot≠j.slot),d.room⟩:=by
 obtain⟨hi,_⟩:=List.getElem?_eq_some_iff.1 hj
 constructor
 ·unfold cmpD
  rw[chkD_zero h,if_neg (by simp),if_neg (by omega),erase_out h.apart hj,List.getD_eq_getElem?_getD,hj,Option.getD_some];unfold cmC dnJ
  by_cases hw:j.wr=true
  ·rw[if_pos hw,if_pos hw,if_pos hw]
  ·rw[if_neg hw,if_neg hw,if_neg hw]
 ·have hs:=List.filter_sublist (l:=d.jobs) (p:=fun k=>decide (k.slot≠j.slot))
  have hl:=hs.length_le;refine⟨by dsimp only;rw[cmC_len];exact h.cells,h.room,?_,fun k hk => ?_,h.apart.sublist hs,fun k hk=>h.clean k (hs.subset hk)⟩
  ·have:=h.few
   dsimp only;omega
  ·dsimp only
   rw[cmC_len];exact h.inr k (hs.subset hk)
theorem setT_ok{s:Sts}(h:OkT s){n:Int}(hn:0≤n∧n<s.refs.length)(hb:bsyT s n.toNat=true):(setT s n).1=witT s n.toNat (refT s n.toNat) false∧(setT s n).2.2=0:=by
 unfold setT;rw[(askT_zero h).2 hn,if_neg (by simp),hb,if_neg (by simp)];exact⟨rfl,rfl⟩
theorem bsyT_wit{s:Sts}{i:Nat}{r:Int}{b:Bool}(hi:i<s.busy.length):bsyT (witT s i r b) i=b:=by
 unfold bsyT witT;simp[hi]
theorem wit_twice{s:Sts}{i:Nat}{r r':Int}{b b':Bool}:witT (witT s i r b) i r' b'=witT s i r' b':=by
 unfold witT;simp
theorem prc_of{s:Swp}{j:Jb}(h0:prcW s j≠0):(prcW s j,j.slot) ∈ wtW s:=by
 unfold prcW at h0 ⊢;rw[wtW_eq]
 cases hf:(if j.wr then s.wr else s.rd).find? (fun v=>decide (v.1=j.slot)) with
 | none=>rw[hf] at h0;simp at h0
 | some v=>
  rw[hf] at h0;have h1:=List.find?_some hf;have h2:=List.mem_of_find?_eq_some hf;simp only[decide_eq_true_eq] at h1;simp only[Option.getD_some] at h0 ⊢
  have h3:∀ l:List Wr,v ∈ l→(v.2.2,j.slot) ∈ wtL l:=fun l hl=>wtL_mem.2 ⟨v,hl,rfl,h1,h0⟩
  cases hw:j.wr with
  | true=>rw[hw] at h2;exact List.mem_append_left _ (h3 _ h2)
  | false=>rw[hw] at h2;exact List.mem_append_right _ (h3 _ h2)
theorem cmp_parts{s:Swp}(h:OkS s){n:Int}{j:Jb}(h0:0≤n)(hj:s.dk.jobs[n.toNat]? = some j):(0≤j.slot∧j.slot<s.sl.refs.length)∧bsyT s.sl j.slot.toNat=true∧(prcW s j≠0→0<refT s.sl j.slot.toNat)∧s.desc.getD n.toNat 0 ∈ tknP s.po ∧
  (setT s.sl j.slot).1=witT s.sl j.slot.toNat (refT s.sl j.slot.toNat) false∧(setT s.sl j.slot).2.2=0∧OkT (witT s.sl j.slot.toNat (refT s.sl j.slot.toNat) false) ∧
  (prcW s j≠0→(unrT (witT s.sl j.slot.toNat (refT s.sl j.slot.toNat) false) j.slot).1=witT s.sl j.slot.toNat (refT s.sl j.slot.toNat - 1) false∧(unrT (witT s.sl j.slot.toNat (refT s.sl j.slot.toNat) false) j.slot).2.2=0) ∧
  (j.wr=true→outW s.rd j.slot=s.rd∧∃ v ∈ s.wr,v.1=j.slot∧remS s.wr j.slot=(outW s.wr j.slot,v,0)∧v.2.2=prcW s j) ∧
  (j.wr=false→outW s.wr j.slot=s.wr∧∃ (i:Nat) (v:Wr),s.rd[i]? = some v∧s.rd.findIdx? (fun v=>decide (v.1=j.slot))=some i∧s.rd.eraseIdx i=outW s.rd j.slot∧v.2.2=prcW s j):=by
 obtain⟨hi,hjy⟩:=List.getElem?_eq_some_iff.1 hj;have hjm:j ∈ s.dk.jobs:=List.mem_of_getElem? hj;have hin:=h.dk.inr j hjm;have hl:=h.len;have hsl:0≤j.slot∧j.slot<s.sl.refs.length:=by omega
 have hb:bsyT s.sl j.slot.toNat=true:=by
  rw[bsyT_eq h (by omega),bsW_yes];exact⟨j,hjm,by omega⟩
 have hprc:prcW s j≠0→0<refT s.sl j.slot.toNat:=fun h1=>h.wtp _ (prc_of h1)
 obtain⟨s1,s2⟩:=setT_ok h.sl hsl hb;have hrr:=refT_range h j.slot.toNat;have hok:=witT_ok h.sl j.slot.toNat hrr false;refine⟨hsl,hb,hprc,?_,s1,s2,hok,fun hp => ?_,fun hw => ?_,fun hw => ?_⟩
 ·rw[←h.desc.2,List.getD_eq_getElem?_getD,List.getElem?_eq_getElem (by have:=h.dlen;omega)]
  exact List.getElem_mem _
 ·have h1:=hprc hp
  have hr:refT (witT s.sl j.slot.toNat (refT s.sl j.slot.toNat) false) j.slot.toNat=refT s.sl j.slot.toNat:=by rw[refT_wit (by omega),if_pos rfl]
  unfold unrT;rw[(askT_zero hok).2 (by simpa [witT] using hsl),if_neg (by simp),hr,if_neg (by omega),bsyT_wit (by have:=h.sl.blen;omega),wit_twice];exact⟨rfl,rfl⟩
 ·obtain⟨v,hv,e1,e2⟩:=job_view h.mw hjm hw
  refine⟨outW_id (other_view h.dk.apart h.mr hjm (by rw[hw];simp)),v,hv,e1,?_,?_⟩
  ·obtain⟨k,hk⟩:=List.getElem?_of_mem hv
   rw[←e1];exact remS_at h.wr hk
  ·unfold prcW
   rw[hw,if_pos rfl]
   cases hf:s.wr.find? (fun v=>decide (v.1=j.slot)) with
   | none=>exact absurd e1 (by simpa using List.find?_eq_none.1 hf v hv)
   | some u=>
    have h1:=List.find?_some hf;have h2:=List.mem_of_find?_eq_some hf;simp only[decide_eq_true_eq] at h1;obtain⟨a,ha⟩:=List.getElem?_of_mem hv;obtain⟨b,hb⟩:=List.getElem?_of_mem h2;have f1:=findIdx_at h.wr.2.2 ha;have f2:=findIdx_at h.wr.2.2 hb;rw[e1] at f1;rw[h1,f1] at f2
    cases f2
    rw[ha] at hb
    cases hb
    rfl
 ·obtain⟨v,hv,e1,e2⟩:=job_view h.mr hjm hw
  have hap:=vvs_apart h.dk.apart h.mr;obtain⟨i,hiv⟩:=List.getElem?_of_mem hv;obtain⟨hil,hiy⟩:=List.getElem?_eq_some_iff.1 hiv
  have hfx:s.rd.findIdx? (fun v=>decide (v.1=j.slot))=some i:=by
   rw[List.findIdx?_eq_some_iff_getElem];refine⟨hil,by rw[hiy];simpa using e1,fun k hk => ?_⟩;have:=(List.pairwise_iff_getElem.1 hap) k i (by omega) hil hk;rw[hiy,e1] at this;simpa using this.1
  refine⟨outW_id (other_view h.dk.apart h.mw hjm (by rw[hw];simp)),i,v,hiv,hfx,?_,?_⟩
  ·rw[List.eraseIdx_eq_take_drop_succ]
   have e:s.rd.take i++v::s.rd.drop (i+1)=s.rd:=by rw[←hiy,←List.drop_eq_getElem_cons hil,List.take_append_drop]
   rw[←e1];unfold outW
   generalize s.rd.take i=p at e ⊢
   generalize s.rd.drop (i+1)=q at e ⊢
   rw[←e] at hap ⊢;rw[List.pairwise_append] at hap;obtain⟨_,h2,h3⟩:=hap;rw[List.pairwise_cons] at h2;rw[List.filter_append,List.filter_cons_of_neg (by simp),List.filter_eq_self.2 (fun z hz => ?_),List.filter_eq_self.2 (fun z hz => ?_)]
   ·have:=(h2.1 z hz).1
    simpa using fun e=>this e.symm
   ·have:=(h3 z hz v (by simp)).1
    simpa using this
  ·unfold prcW
   rw[hw,if_neg (by simp)]
   have:s.rd.find? (fun v=>decide (v.1=j.slot))=some v:=by
    rw[List.find?_eq_some_iff_getElem];refine⟨by simpa using e1,i,hil,hiy,fun k hk => ?_⟩;have:=(List.pairwise_iff_getElem.1 hap) k i (by omega) hil hk;rw[hiy,e1] at this;simpa using this.1
   rw[this];rfl
def dnS(s:Swp)(n:Int)(j:Jb):Swp:=⟨s.cap,witT s.sl j.slot.toNat (if prcW s j=0 then refT s.sl j.slot.toNat else refT s.sl j.slot.toNat - 1) false,outW s.wr j.slot,outW s.rd j.slot,s.desc.eraseIdx n.toNat,⟨cmC s.dk j,s.dk.jobs.filter fun k=>decide (k.slot≠j.slot),s.dk.room⟩,(gvP s.po (s.desc.getD n.toNat 0)).1⟩
theorem prc_dn(s:Swp)(d:Dsk)(j:Jb):prcW s (dnJ d j)=prcW s j:=by
 obtain⟨h1,h2,_⟩:=dnJ_wr d j;unfold prcW;rw[h1,h2]
theorem cmp_ok{s:Swp}(h:OkS s){n:Int}{j:Jb}(h0:0≤n)(hj:s.dk.jobs[n.toNat]? = some j):cmpW s n=(dnS s n j,⟨dnJ s.dk j,prcW s j⟩,0)∧OkS (dnS s n j):=by
 obtain⟨hi,hjy⟩:=List.getElem?_eq_some_iff.1 hj;have hjm:j ∈ s.dk.jobs:=List.mem_of_getElem? hj;obtain⟨hsl,hb,hprc,hds,s1,s2,hok,hun,hwt,hrd⟩:=cmp_parts h h0 hj;obtain⟨c1,c2⟩:=cmpD_ok h.dk h0 hj;obtain⟨d1,d2,d3⟩:=dnJ_wr s.dk j;have hrr:=refT_range h j.slot.toNat
 constructor
 ·unfold cmpW
  rw[if_neg (by rw[chkW_ok.2 h];simp),if_neg (by omega),c1];dsimp only;rw[d1,d2,prc_dn,s1];unfold dnS;refine Prod.ext ?_ rfl;dsimp only
  have e1:(if j.wr=true then outW s.wr j.slot else s.wr)=outW s.wr j.slot:=by
   cases hw:j.wr with
   | true=>rfl
   | false=>rw[if_neg (by simp),(hrd hw).1]
  have e2:(if j.wr=true then s.rd else outW s.rd j.slot)=outW s.rd j.slot:=by
   cases hw:j.wr with
   | true=>rw[if_pos rfl,(hwt hw).1]
   | false=>rfl
  rw[e1,e2]
  by_cases hp:prcW s j=0
  ·rw[if_pos hp,if_pos hp]
  ·rw[if_neg hp,if_neg hp,(hun hp).1]
 ·obtain⟨g1,g2,g3,g4,g5,g6⟩:=gvP_ok h.po hds
  have hil:n.toNat<s.desc.length:=by have:=h.dlen;omega
  have hg:s.desc.getD n.toNat 0=s.desc[n.toNat]:=by rw[List.getD_eq_getElem?_getD,List.getElem?_eq_getElem hil];rfl
  have hw:wtW (dnS s n j)=(wtW s).filter fun x=>decide (x.2≠j.slot):=by
   rw[wtW_eq,wtW_eq,List.filter_append];unfold dnS;dsimp only;rw[wtL_out,wtL_out]
  refine OkS.of h.cap (witT_ok h.sl _ ?_ false) c2 g3 (by simpa [dnS,witT,cmC_len] using h.len) (by unfold dnS;dsimp only;rw[g2];exact h.room) ?_ ?_ ?_ ?_ ?_ ?_ ?_ ?_ ?_ ?_
  ·split
   ·exact hrr
   ·rename_i hp;have:=hprc hp;omega
  ·have:(outW s.wr j.slot).length≤s.wr.length:=List.length_filter_le _ _
   have:=h.few;unfold dnS;dsimp only;omega
  ·unfold dnS
   dsimp only;rw[jvs_out,vvs_out,h.mw]
  ·unfold dnS
   dsimp only;rw[jvs_out,vvs_out,h.mr]
  ·refine busy_set h (by omega) ?_ (fun k hk => ?_) _
   ·rw[bsW_no]
    intro k hk;have:=(List.mem_filter.1 hk).2;simp at this;omega
   ·rw[Bool.eq_iff_iff,bsW_yes,bsW_yes]
    constructor
    ·rintro ⟨x,hx,e⟩;exact⟨x,(List.mem_filter.1 hx).1,e⟩
    ·rintro ⟨x,hx,e⟩;exact⟨x,List.mem_filter.2 ⟨hx,by simp;omega⟩,e⟩
  ·unfold dnS
   dsimp only;rw[←erase_out h.dk.apart hj,List.length_eraseIdx_of_lt hil,List.length_eraseIdx_of_lt hi,h.dlen]
  ·unfold dnS
   dsimp only;rw[List.length_eraseIdx_of_lt hil];have:=h.tlen;omega
  ·intro x hx
   obtain⟨h1,h2⟩:=(g4 x).1 hx;unfold dnS;dsimp only;obtain⟨i,hi,rfl⟩:=List.mem_iff_getElem.1 (h.tmem x h1);refine List.mem_eraseIdx_iff_getElem.2 ⟨i,hi,?_,rfl⟩;rintro rfl;exact h2 hg.symm
  ·rw[hw]
   exact h.wts.sublist (List.Sublist.map _ List.filter_sublist)
  ·rw[hw]
   exact fun x hx=>h.wtr x (List.mem_filter.1 hx).1
  ·rw[hw]
   intro x hx;obtain⟨h1,h2⟩:=List.mem_filter.1 hx;have h3:=wt_slot h h1;simp only[decide_eq_true_eq] at h2;unfold dnS;dsimp only;rw[refT_wit (by omega),if_neg (by omega)];exact h.wtp x h1
end Go.Proofs.YthijbipidbjpfaaGreatDoor
