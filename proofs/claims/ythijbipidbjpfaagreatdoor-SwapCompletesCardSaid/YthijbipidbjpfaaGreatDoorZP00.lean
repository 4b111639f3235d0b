import Derived.Test.YthijbipidbjpfaaGreatDoorRows
import Derived.WalkKit
import Derived.WalkSpells
import Derived.WalkLawsBesides
import Derived.Deep.LoopGhost
import Derived.Deep.QuietTactic
import Derived.BigQuiet
import Derived.RegionTactic
import Derived.Lib.Hide
import Derived.Maps.Own
import Derived.Maps.OwnOps
import Derived.Maps.OwnSet
import Derived.Maps.Views
import Derived.Deep.DeepMust
import Derived.MapKept
import Derived.WideKeyRuns
import Derived.RangeFuncNested
import Derived.RangeFuncBound
import Derived.RangeFuncCalls
import Derived.RangeFuncLeaves
import Derived.Shelf.Abstract
import Derived.Shelf.RegionOpen
import Derived.OwnWalkIn
import Derived.TacticsInMore
import Derived.LoopNIn
import Derived.LoopIn
import Derived.Laws.OwnMore
import Derived.Lib.Overlaps
import Derived.Lib.AppendZeros
import Derived.Lib.SliceRun
import Derived.Lib.JoinLaws
import Derived.Laws.Externs
import Derived.Laws.IdiomCopy
import Derived.Deep.RegionLaw
set_option linter.unusedSimpArgs false
set_option linter.unusedVariables false
set_option maxRecDepth 100000
set_option maxHeartbeats 8000000
namespace Go.Proofs.YthijbipidbjpfaaGreatDoor
open Go.RowKit Go.Maps
set_option linter.unusedSimpArgs false
set_option linter.unusedVariables false
theorem ret_int{k:IntKind}{a b:Int}(h:a=b):Ending.returned (.int k a)=.returned (.int k b):=by rw[h]
theorem ret_bool{a b:Bool}(h:a=b):Ending.returned (.bool a)=.returned (.bool b):=by rw[h]
theorem below_drewN{B:Nat}{a w:World}(h:Below B a w)(n:Nat):Below B a (w.drewN n):=⟨h.os,h.tape,h.output,h.size,h.block⟩
theorem le_size_alloc{n:Nat}{w:World}{o:Obj}(h:n≤w.heap.size):n≤(w.alloc o).heap.size:=by simp;omega
theorem lt_size_alloc{n:Nat}{w:World}{o:Obj}(h:n<w.heap.size):n<(w.alloc o).heap.size:=by simp;omega
theorem le_size_drewN{n k:Nat}{w:World}(h:n≤w.heap.size):n≤(w.drewN k).heap.size:=h
theorem le_size_drew{n:Nat}{w:World}(h:n≤w.heap.size):n≤w.drew.heap.size:=h
theorem le_size_setCell{n:Nat}{w:World}{p:Addr}{v:Value}(h:n≤w.heap.size):n≤(w.setCell p v).heap.size:=by simpa [World.setCell] using h
theorem cell_keep{B:Nat}{a w:World}{p:Addr}{v:Value}(hb:Below B a w)(h:a.cell? p=some v)(hp:p.block<B):w.cell? p=some v:=(hb.cell hp).trans h
theorem frozen_keep{B:Nat}{a w:World}{p:Addr}{b:Bool}(hb:Below B a w)(h:a.frozen? p=b)(hp:p.block<B):w.frozen? p=b:=(hb.frozen hp).trans h
theorem quiet_l{P:Program}{f:FuncId}{args:Array Value}{w:World}{n:Nat}{v:Value}
    (h:Calls P f args (w.drewN n) fun e w'=>e=.returned v∧w.drewN n=w'):Calls P f args (w.drewN n) fun e w''=>e=.returned v∧∃ m,w''=w.drewN m:=
  h.mono fun _ _ ⟨he,hm⟩=>⟨he,n,hm.symm⟩
theorem quiet_l2{P:Program}{f:FuncId}{args:Array Value}{w:World}{a n:Nat}{v:Value}
    (h:Calls P f args (w.drewN (a+n)) fun e w'=>e=.returned v∧w.drewN (a+n)=w'):Calls P f args (w.drewN (a+n)) fun e w''=>e=.returned v∧∃ m,w''=w.drewN (a+m):=
  h.mono fun _ _ ⟨he,hm⟩=>⟨he,n,hm.symm⟩
def Sl{α:Type}(w:World)(mk:α→Value)(A:Option Addr)(xs:List α):Prop:=
  0<xs.length→∃ b off,A=some ⟨b,off,none⟩∧b<w.heap.size∧∀ j x,xs[j]? = some x→w.cell? ⟨b,off+j,none⟩=some (mk x)
section
variable {α : Type} {w w' : World} {mk : α → Value} {A : Option Addr} {xs : List α}
theorem Sl.nil:Sl w mk A ([]:List α):=fun h=>absurd h (by simp)
theorem Sl.at_{k:Nat}(h:Sl w mk A xs)(hk:k<xs.length) :
    ∃ b off x,A=some ⟨b,off,none⟩∧b<w.heap.size∧xs[k]? = some x∧w.cell? ⟨b,off+k,none⟩=some (mk x):=by
  obtain⟨b,off,e,hb,hc⟩:=h (by omega);exact⟨b,off,xs[k],e,hb,List.getElem?_eq_getElem hk,hc k _ (List.getElem?_eq_getElem hk)⟩
theorem Sl.below{B:Nat}(h:Sl w mk A xs)(hb:Below B w w')(hB:w.heap.size≤B):Sl w' mk A xs:=fun hn=>by
  obtain⟨b,off,e,hlt,hc⟩:=h hn;exact⟨b,off,e,Nat.lt_of_lt_of_le hlt hb.size,fun j x hx=>(hb.cell (p:=⟨b,off+j,none⟩) (show b<B by omega)).trans (hc j x hx)⟩
theorem Sl.ext(h:Sl w mk A xs)(hb:Below w.heap.size w w'):Sl w' mk A xs:=h.below hb (Nat.le_refl _)
end
def Blk(w:World)(b:Nat)(t:TypeId)(cs:Array Value):Prop:=w.heap[b]? = some (.cells cs t (0,0))
section
variable {w w' : World} {b : Nat} {t : TypeId} {cs : Array Value}
theorem Blk.lt(h:Blk w b t cs):b<w.heap.size:=by
  rcases Nat.lt_or_ge b w.heap.size with hlt | hge
  · exact hlt
  · unfold Blk at h;rw[Array.getElem?_eq_none hge] at h;cases h
theorem Blk.new_{cs':Array Value}(hb:b=w.heap.size)(hc:cs'=cs):Blk (w.alloc (.cells cs' t)) b t cs:=by
  subst hb hc;show (w.heap.push _)[w.heap.size]? = _;simp
theorem Blk.alloc_(h:Blk w b t cs)(o:Obj):Blk (w.alloc o) b t cs:=(Below.heap_alloc w o b h.lt).trans h
theorem Blk.drew_(h:Blk w b t cs):Blk w.drew b t cs:=h
theorem Blk.drewN_(h:Blk w b t cs)(n:Nat):Blk (w.drewN n) b t cs:=h
theorem Blk.far_(h:Blk w b t cs){p:Addr}(hp:b≠p.block)(u:Value):Blk (w.setCell p u) b t cs:=(Below.heap_setCell w p u b hp).trans h
theorem Blk.set_(h:Blk w b t cs)(i:Nat)(u:Value):Blk (w.setCell ⟨b,i,none⟩ u) b t (cs.setIfInBounds i u):=by
  unfold Blk at h ⊢;simp[World.setCell,Array.getElem?_modify,h]
theorem Blk.below_{B:Nat}(h:Blk w b t cs)(hb:Below B w w')(hB:b<B):Blk w' b t cs:=(hb.block b hB).trans h
theorem Blk.cell_(h:Blk w b t cs)(i:Nat):w.cell? ⟨b,i,none⟩=cs[i]?:=by
  unfold Blk at h;simp[World.cell?,h]
theorem Blk.frozen_(h:Blk w b t cs)(i:Nat):w.frozen? ⟨b,i,none⟩=false:=by
  unfold Blk at h;simp[World.frozen?,h]
end
theorem Sl.of_blk{α:Type}{w:World}{mk:α→Value}{b:Nat}{t:TypeId}{cs:Array Value}{xs:List α}(h:Blk w b t cs)(hc:∀ (j:Nat) x,xs[j]? = some x→cs[j]? = some (mk x)) :
    Sl w mk (some ⟨b,0,none⟩) xs:=fun _=>⟨b,0,rfl,h.lt,fun j x hx=>by rw[h.cell_,Nat.zero_add];exact hc j x hx⟩
theorem Sl.of_lit{α:Type}{w:World}{mk:α→Value}{b:Nat}{t:TypeId}{xs:List α}(h:Blk w b t (xs.map mk).toArray):Sl w mk (some ⟨b,0,none⟩) xs:=
  Sl.of_blk h fun j x hx=>by simp[hx]
section
variable {P : Program} {K E T : TypeId} {w w' : World} {B n : Nat} {f : Int → Int}
end
theorem plain_int:Tryz.prog.plainKey 3=true:=by simp[Program.plainKey,Tryz.underlying3]
theorem part_int(w:World)(xs:Array Value)(i:Nat)(v:Value)(h:xs[i]? = some v):(part 3 xs i).run Tryz.prog w=.ok v w:=run_part_plain w plain_int h
theorem eqIn_int(w:World)(d:Nat)(a b:Int):(Op.equalIn (d+1) 3 (.int .i64 a) (.int .i64 b)).run Tryz.prog w=.ok (a == b) w:=by
 simp[Op.equalIn,run_underlying Tryz.underlying3]
theorem eq_key(w:World)(a b c d:Int):(Op.equal 189 (.agg #[.int .i64 a,.int .i64 b]) (.agg #[.int .i64 c,.int .i64 d])).run Tryz.prog w=.ok (a == c && b == d) w:=by
 have hs:Tryz.prog.stoodInHeld 189=false:=by kernel_rfl
 have h0:=part_int w #[.int .i64 a,.int .i64 b] 0 (.int .i64 a) rfl;have h1:=part_int w #[.int .i64 a,.int .i64 b] 1 (.int .i64 b) rfl;have h2:=part_int w #[.int .i64 c,.int .i64 d] 0 (.int .i64 c) rfl;have h3:=part_int w #[.int .i64 c,.int .i64 d] 1 (.int .i64 d) rfl;have e1:=eqIn_int w 9998 a c;have e2:=eqIn_int w 9998 b d;unfold Op.equal;show (Op.equalIn (9999+1) _ _ _).run _ _=_;unfold Op.equalIn;simp only[Sem.run_bind,run_underlying Tryz.underlying189,Result.andThen_ok];simp[hs,h0,h1,h2,h3,e1,e2]
 by_cases h:a=c <;> by_cases h':b=d <;> simp[h,h']
theorem check_int(w:World)(em:Bool)(n:Nat)(x:Int):(Instr.checkKey em (n+1) 3 (.int .i64 x)).run Tryz.prog w=.ok () w:=by
 simp[Instr.checkKey,run_underlying Tryz.underlying3]
theorem check_key(w:World)(em:Bool)(a b:Int):(Instr.checkKey em 10000 189 (.agg #[.int .i64 a,.int .i64 b])).run Tryz.prog w=.ok () w:=by
 have h0:=part_int w #[.int .i64 a,.int .i64 b] 0 (.int .i64 a) rfl;have h1:=part_int w #[.int .i64 a,.int .i64 b] 1 (.int .i64 b) rfl
 have e:=fun x=>check_int w em 9998 x
 show (Instr.checkKey em (9999+1) _ _).run _ _=_;unfold Instr.checkKey;simp only[Sem.run_bind,run_underlying Tryz.underlying189,Result.andThen_ok];simp[h0,h1,e]
def kv(k:Int × Int):Value:=.agg #[.int .i64 k.1,.int .i64 k.2]
def ent(p:(Int × Int) × Int):Value × Value:=(kv p.1,.int .i64 p.2)
def MapK(w:World)(B:Nat)(m:List ((Int × Int) × Int)):Prop:=∃ es cl,w.heap[B]? = some (.map es cl)∧es.toList.map (fun e=>(e.key,e.val))=m.map ent
section
variable {w w' : World} {B : Nat} {m : List ((Int × Int) × Int)}
theorem MapK.lt(h:MapK w B m):B<w.heap.size:=by
 obtain⟨es,cl,h,_⟩:=h;exact(Array.getElem?_eq_some_iff.1 h).1
theorem MapK.new_(w:World):MapK (w.alloc (.map #[] 0)) w.heap.size []:=⟨#[],0,(Go.MapKept.heap_alloc w _).1,rfl⟩
theorem MapK.below_{C:Nat}(h:MapK w B m)(hb:Below C w w')(hB:B<C):MapK w' B m:=by
 obtain⟨es,cl,h,e⟩:=h;exact⟨es,cl,(hb.block B hB).trans h,e⟩
theorem MapK.grown_{row:Option Nat}(h:MapK w B m)(hg:w.grownBy w' row)(hne:row≠some B):MapK w' B m:=by
 have hl:=h.lt;obtain⟨es,cl,h,e⟩:=h;exact⟨es,cl,(hg.block B hl (fun e=>hne e.symm)).trans h,e⟩
def placeOf(m:List ((Int × Int) × Int))(k:Int × Int):Nat:=match m with | []=>0 | p::m=>if k=p.1 then 0 else placeOf m k+1
theorem find_ask(k:Int × Int):∀ (es:List MapEntry) (m:List ((Int × Int) × Int)) (i:Nat),es.map (fun e=>(e.key,e.val))=m.map ent →
  (Instr.findAsking 189 (kv k) es i).run Tryz.prog w=.ok ((m.lookup k).map (fun v=>(i+placeOf m k,.int .i64 v))) w
 | [],[],i,_=>by simp[Instr.findAsking]
 | [],_::_,_,h=>by simp at h
 | _::_,[],_,h=>by simp at h
 | e::es,p::m,i,h=>by
  obtain⟨⟨a,b⟩,v⟩:=p;simp only[List.map_cons,List.cons.injEq] at h;obtain⟨h1,h2⟩:=h;obtain⟨e1,e2⟩:=Prod.mk.injEq .. ▸ h1;have hj:=find_ask k es m (i+1) h2;have hq:=eq_key w k.1 k.2 a b;unfold Instr.findAsking;rw[e1,e2];simp only[kv,Sem.run_bind];rw[hq];simp only[Result.andThen_ok]
  by_cases hk:k=(a,b)
  ·subst hk
   simp[placeOf]
  ·have hb:(k.1 == a && k.2 == b)=false:=by
    simp only[Bool.and_eq_false_imp,beq_iff_eq,beq_eq_false_iff_ne,ne_eq];intro h1 h2;exact hk (Prod.ext h1 h2)
   have hk':(k == (a,b))=false:=by simpa using hk
   rw[hb];simp only[Bool.false_eq_true,if_false];rw[List.lookup_cons,hk'];simp only[placeOf,if_neg hk];refine hj.trans ?_;simp[Nat.add_assoc,Nat.add_comm 1]
theorem MapK.find(h:MapK w B m)(k:Int × Int):∃ es cl,w.heap[B]? = some (.map es cl)∧es.toList.map (fun e=>(e.key,e.val))=m.map ent ∧
  (Instr.findKey 189 (kv k) es.toList).run Tryz.prog w=.ok ((m.lookup k).map (fun v=>(placeOf m k,.int .i64 v))) w:=by
 obtain⟨es,cl,h,e⟩:=h;have hj:=find_ask (w:=w) k es.toList m 0 e;simp only[Nat.zero_add] at hj;exact⟨es,cl,h,e,by rw[run_findKey_eq w (by rw[Tryz.underlying189])];exact hj⟩
def okOf(o:Option Int):Value:=match o with | some v=>.tuple #[.int .i64 v,.bool true] | none=>.tuple #[.int .i64 0,.bool false]
theorem run_lookK(h:MapK w B m)(k:Int × Int):(Instr.lookup 152 (.map (some B)) (.agg #[.int .i64 k.1,.int .i64 k.2]) true).run Tryz.prog w=.ok (okOf (m.lookup k)) w:=by
 obtain⟨es,cl,hb,_,hf⟩:=h.find k
 have hz:(zeroValue 3).run Tryz.prog w=.ok (.int .i64 0) w:=by first | exact Tryz.zeroValue3 w | simp[go_sem]
 unfold Instr.lookup;simp only[Sem.run_bind,run_underlying Tryz.underlying152,Result.andThen_ok];simp only[Sem.run_bind,Go.MapKept.run_getObj_map hb,Result.andThen_ok,Sem.run_pure];rw[check_key];simp only[Result.andThen_ok];have hf':(Instr.findKey 189 (.agg #[.int .i64 k.1,.int .i64 k.2]) es.toList).run Tryz.prog w=_:=hf;rw[hf']
 cases hm:m.lookup k with
 | none=>simp[okOf,hz]
 | some v=>simp[okOf]
def putK(w:World)(B:Nat)(es:Array MapEntry)(cl:Nat):World:={ w with heap:=w.heap.setIfInBounds B (.map es cl) }
theorem putK_grown(w:World)(B:Nat)(es:Array MapEntry)(cl:Nat):w.grownBy (putK w B es cl) (some B):=
 ⟨rfl,rfl,rfl,by simp[putK],fun k _ hne=>by
  show (w.heap.setIfInBounds B _)[k]? = _
  rw[Array.getElem?_setIfInBounds_ne]
  rintro rfl
  exact hne rfl⟩
def putKL(m:List ((Int × Int) × Int))(k:Int × Int)(i:Int):List ((Int × Int) × Int):=match m with | []=>[(k,i)] | p::m=>if k=p.1 then (k,i)::m else p::putKL m k i
theorem putL_none{k:Int × Int}(i:Int):∀ {m:List ((Int × Int) × Int)},m.lookup k=none→putKL m k i=m++[(k,i)]
 | [],_=>rfl
 | (a,v)::m,h=>by
  rw[List.lookup_cons] at h
  by_cases hk:k=a
  ·simp[hk] at h
  ·have hk':(k == a)=false:=by simpa using hk
   rw[hk'] at h;simp only[putKL,if_neg hk,List.cons_append];rw[putL_none i h]
theorem put_place{k:Int × Int}(i:Int):∀ (es:List MapEntry) (m:List ((Int × Int) × Int)),es.map (fun e=>(e.key,e.val))=m.map ent→(m.lookup k).isSome=true →
  (es.modify (placeOf m k) fun e=>{ e with key:=kv k,val:=.int .i64 i }).map (fun e=>(e.key,e.val))=(putKL m k i).map ent∧(es[placeOf m k]?).map (·.key)=some (kv k)
 | _,[],_,h=>by simp at h
 | [],_::_,h,_=>by simp at h
 | e::es,(a,v)::m,h,hl=>by
  simp only[List.map_cons,List.cons.injEq] at h;obtain⟨h1,h2⟩:=h;obtain⟨e1,e2⟩:=Prod.mk.injEq .. ▸ h1
  by_cases hk:k=a
  ·subst hk
   simp only[placeOf,if_true,putKL];exact⟨by simp[h2,ent],by simp[e1]⟩
  ·rw[List.lookup_cons] at hl
   have hk':(k == a)=false:=by simpa using hk
   rw[hk'] at hl;obtain⟨r1,r2⟩:=put_place i es m h2 hl;simp only[placeOf,if_neg hk,putKL];exact⟨by simp[r1,ent,e1,e2],by simpa using r2⟩
theorem stays_key(a b:Int):(Instr.keyThatStays (.agg #[.int .i64 a,.int .i64 b]) (.agg #[.int .i64 a,.int .i64 b])).run Tryz.prog w=.ok (.agg #[.int .i64 a,.int .i64 b]) w:=by
 have hs:∀ n x,Instr.sameBits (n+1) (.int .i64 x) (.int .i64 x)=true:=fun n x=>by simp[Instr.sameBits]
 have:Instr.sameBits 10000 (.agg #[.int .i64 a,.int .i64 b]) (.agg #[.int .i64 a,.int .i64 b])=true:=by
  show Instr.sameBits (9998+1+1) _ _=true;rw[Instr.sameBits];simp[hs]
 simp[Instr.keyThatStays,this]
theorem run_putK(h:MapK w B m)(k:Int × Int)(i:Int) :
  ∃ w',(Instr.mapUpdate 152 (.map (some B)) (.agg #[.int .i64 k.1,.int .i64 k.2]) (.int .i64 i)).run Tryz.prog w=.ok () w'∧MapK w' B (putKL m k i)∧w.grownBy w' (some B)∧w'.heap.size=w.heap.size:=by
 obtain⟨es,cl,hb,he,hf'⟩:=h.find k;have hf2:(Instr.findKey 189 (.agg #[.int .i64 k.1,.int .i64 k.2]) es.toList).run Tryz.prog w=_:=hf'
 cases hf:m.lookup k with
 | none=>
  refine⟨putK w B (es.push ⟨kv k,.int .i64 i,cl⟩) (cl+1),?_,⟨_,_,(Go.MapKept.heap_set hb).1,?_⟩,putK_grown _ _ _ _,by simp[putK]⟩
  ·unfold Instr.mapUpdate
   simp only[Sem.run_bind,run_underlying Tryz.underlying152,Result.andThen_ok];simp only[Sem.run_bind,Go.MapKept.run_getObj_map hb,Result.andThen_ok];rw[check_key];simp only[Result.andThen_ok];rw[hf2,hf];simp only[Option.map_none,Result.andThen_ok];rw[Go.MapKept.run_setObj_map _ hb];rfl
  ·rw[putL_none i hf]
   simp[he,ent]
 | some v=>
  obtain⟨r1,r2⟩:=put_place (k:=k) i es.toList m he (by rw[hf];rfl);refine⟨putK w B (es.modify (placeOf m k) fun e=>{ e with key:=kv k,val:=.int .i64 i }) cl,?_,⟨_,_,(Go.MapKept.heap_set hb).1,?_⟩,putK_grown _ _ _ _,by simp[putK]⟩
  ·have hg:((es[placeOf m k]?).map (·.key)).getD (Value.agg #[.int .i64 k.1,.int .i64 k.2])=.agg #[.int .i64 k.1,.int .i64 k.2]:=by
    rw[Array.getElem?_toList] at r2;rw[r2];rfl
   unfold Instr.mapUpdate;simp only[Sem.run_bind,run_underlying Tryz.underlying152,Result.andThen_ok];simp only[Sem.run_bind,Go.MapKept.run_getObj_map hb,Result.andThen_ok];rw[check_key];simp only[Result.andThen_ok];rw[hf2,hf];simp only[Option.map_some,Result.andThen_ok,Sem.run_bind];rw[hg,stays_key];simp only[Result.andThen_ok];rw[Go.MapKept.run_setObj_map _ hb];rfl
  ·rw[Array.toList_modify]
   exact r1
end
theorem zbl{B:Nat}{w w':World}(h:Below B w w':=by repeat' (first | with_reducible exact Below.refl _ _ | with_reducible assumption | with_reducible apply Below.drew | with_reducible apply below_drewN | with_reducible apply Below.alloc | with_reducible apply Below.setCell | (with_reducible refine Below.trans ?_ (Below.mono (by assumption) ?_)) | (simp;done) | (simp;omega) | omega | with_reducible apply le_size_alloc | with_reducible apply le_size_drewN | with_reducible apply le_size_drew | with_reducible apply le_size_setCell | refine Nat.le_trans ?_ (Below.size (by assumption)))):Below B w w':=h
theorem zbm{B:Nat}{w w':World}(h:Below B w w':=by repeat' (first | with_reducible exact Below.refl _ _ | with_reducible assumption | with_reducible apply Below.drew | with_reducible apply below_drewN | with_reducible apply Below.alloc | with_reducible apply Below.setCell | (with_reducible refine Below.trans ?_ (Below.mono (by assumption) ?_)) | (simp;done) | (simp;omega) | omega | with_reducible apply le_size_alloc | with_reducible apply le_size_drewN | with_reducible apply le_size_drew | with_reducible apply le_size_setCell | with_reducible refine Nat.le_trans ?_ (Below.size (by assumption)))):Below B w w':=h
theorem zbk{w:World}{b:Nat}{t:TypeId}{cs:Array Value}(h:Blk w b t cs:=by repeat' (first | with_reducible assumption | (with_reducible refine Blk.new_ ?_ ?_ <;> first | (simp;done) | rfl) | with_reducible apply Blk.drew_ | with_reducible apply Blk.drewN_ | with_reducible apply Blk.alloc_ | with_reducible refine Blk.far_ ?_ ?_ _ | (with_reducible refine Blk.below_ ?_ (by assumption) ?_) | (simp;done) | (simp;omega) | omega | with_reducible apply le_size_alloc | with_reducible apply lt_size_alloc | with_reducible apply le_size_drewN | with_reducible apply le_size_drew | with_reducible apply le_size_setCell | refine Nat.lt_of_lt_of_le ?_ (Below.size (by assumption)) | refine Nat.le_trans ?_ (Below.size (by assumption)))):Blk w b t cs:=h
theorem zc2{w:World}{b:Nat}{t:TypeId}{v0 v1:Value}(h:Blk w b t #[v0,v1]):w.cell? ⟨b,0,none⟩=some v0∧w.cell? ⟨b,1,none⟩=some v1:=
  ⟨h.cell_ 0,h.cell_ 1⟩
theorem zc3{w:World}{b:Nat}{t:TypeId}{v0 v1 v2:Value}(h:Blk w b t #[v0,v1,v2]):w.cell? ⟨b,0,none⟩=some v0∧w.cell? ⟨b,1,none⟩=some v1∧w.cell? ⟨b,2,none⟩=some v2:=
  ⟨h.cell_ 0,h.cell_ 1,h.cell_ 2⟩
theorem zc4{w:World}{b:Nat}{t:TypeId}{v0 v1 v2 v3:Value}(h:Blk w b t #[v0,v1,v2,v3]):w.cell? ⟨b,0,none⟩=some v0∧w.cell? ⟨b,1,none⟩=some v1∧w.cell? ⟨b,2,none⟩=some v2∧w.cell? ⟨b,3,none⟩=some v3:=
  ⟨h.cell_ 0,h.cell_ 1,h.cell_ 2,h.cell_ 3⟩
theorem zc6{w:World}{b:Nat}{t:TypeId}{v0 v1 v2 v3 v4 v5:Value}(h:Blk w b t #[v0,v1,v2,v3,v4,v5]):w.cell? ⟨b,0,none⟩=some v0∧w.cell? ⟨b,1,none⟩=some v1∧w.cell? ⟨b,2,none⟩=some v2∧w.cell? ⟨b,3,none⟩=some v3∧w.cell? ⟨b,4,none⟩=some v4∧w.cell? ⟨b,5,none⟩=some v5:=
  ⟨h.cell_ 0,h.cell_ 1,h.cell_ 2,h.cell_ 3,h.cell_ 4,h.cell_ 5⟩
theorem zc7{w:World}{b:Nat}{t:TypeId}{v0 v1 v2 v3 v4 v5 v6:Value}(h:Blk w b t #[v0,v1,v2,v3,v4,v5,v6]):w.cell? ⟨b,0,none⟩=some v0∧w.cell? ⟨b,1,none⟩=some v1∧w.cell? ⟨b,2,none⟩=some v2∧w.cell? ⟨b,3,none⟩=some v3∧w.cell? ⟨b,4,none⟩=some v4∧w.cell? ⟨b,5,none⟩=some v5∧w.cell? ⟨b,6,none⟩=some v6:=
  ⟨h.cell_ 0,h.cell_ 1,h.cell_ 2,h.cell_ 3,h.cell_ 4,h.cell_ 5,h.cell_ 6⟩
theorem zc8{w:World}{b:Nat}{t:TypeId}{v0 v1 v2 v3 v4 v5 v6 v7:Value}(h:Blk w b t #[v0,v1,v2,v3,v4,v5,v6,v7]):w.cell? ⟨b,0,none⟩=some v0∧w.cell? ⟨b,1,none⟩=some v1∧w.cell? ⟨b,2,none⟩=some v2∧w.cell? ⟨b,3,none⟩=some v3∧w.cell? ⟨b,4,none⟩=some v4∧w.cell? ⟨b,5,none⟩=some v5∧w.cell? ⟨b,6,none⟩=some v6∧w.cell? ⟨b,7,none⟩=some v7:=
  ⟨h.cell_ 0,h.cell_ 1,h.cell_ 2,h.cell_ 3,h.cell_ 4,h.cell_ 5,h.cell_ 6,h.cell_ 7⟩
theorem zc10{w:World}{b:Nat}{t:TypeId}{v0 v1 v2 v3 v4 v5 v6 v7 v8 v9:Value}(h:Blk w b t #[v0,v1,v2,v3,v4,v5,v6,v7,v8,v9]):w.cell? ⟨b,0,none⟩=some v0∧w.cell? ⟨b,1,none⟩=some v1∧w.cell? ⟨b,2,none⟩=some v2∧w.cell? ⟨b,3,none⟩=some v3∧w.cell? ⟨b,4,none⟩=some v4∧w.cell? ⟨b,5,none⟩=some v5∧w.cell? ⟨b,6,none⟩=some v6∧w.cell? ⟨b,7,none⟩=some v7∧w.cell? ⟨b,8,none⟩=some v8∧w.cell? ⟨b,9,none⟩=some v9:=
  ⟨h.cell_ 0,h.cell_ 1,h.cell_ 2,h.cell_ 3,h.cell_ 4,h.cell_ 5,h.cell_ 6,h.cell_ 7,h.cell_ 8,h.cell_ 9⟩
theorem zc11{w:World}{b:Nat}{t:TypeId}{v0 v1 v2 v3 v4 v5 v6 v7 v8 v9 v10:Value}(h:Blk w b t #[v0,v1,v2,v3,v4,v5,v6,v7,v8,v9,v10]):w.cell? ⟨b,0,none⟩=some v0∧w.cell? ⟨b,1,none⟩=some v1∧w.cell? ⟨b,2,none⟩=some v2∧w.cell? ⟨b,3,none⟩=some v3∧w.cell? ⟨b,4,none⟩=some v4∧w.cell? ⟨b,5,none⟩=some v5∧w.cell? ⟨b,6,none⟩=some v6∧w.cell? ⟨b,7,none⟩=some v7∧w.cell? ⟨b,8,none⟩=some v8∧w.cell? ⟨b,9,none⟩=some v9∧w.cell? ⟨b,10,none⟩=some v10:=
  ⟨h.cell_ 0,h.cell_ 1,h.cell_ 2,h.cell_ 3,h.cell_ 4,h.cell_ 5,h.cell_ 6,h.cell_ 7,h.cell_ 8,h.cell_ 9,h.cell_ 10⟩
theorem zc12{w:World}{b:Nat}{t:TypeId}{v0 v1 v2 v3 v4 v5 v6 v7 v8 v9 v10 v11:Value}(h:Blk w b t #[v0,v1,v2,v3,v4,v5,v6,v7,v8,v9,v10,v11]):w.cell? ⟨b,0,none⟩=some v0∧w.cell? ⟨b,1,none⟩=some v1∧w.cell? ⟨b,2,none⟩=some v2∧w.cell? ⟨b,3,none⟩=some v3∧w.cell? ⟨b,4,none⟩=some v4∧w.cell? ⟨b,5,none⟩=some v5∧w.cell? ⟨b,6,none⟩=some v6∧w.cell? ⟨b,7,none⟩=some v7∧w.cell? ⟨b,8,none⟩=some v8∧w.cell? ⟨b,9,none⟩=some v9∧w.cell? ⟨b,10,none⟩=some v10∧w.cell? ⟨b,11,none⟩=some v11:=
  ⟨h.cell_ 0,h.cell_ 1,h.cell_ 2,h.cell_ 3,h.cell_ 4,h.cell_ 5,h.cell_ 6,h.cell_ 7,h.cell_ 8,h.cell_ 9,h.cell_ 10,h.cell_ 11⟩
theorem zf{w:World}{b:Nat}{t:TypeId}{cs:Array Value}(h:Blk w b t cs):w.frozen? ⟨b,0,none⟩=false∧w.frozen? ⟨b,1,none⟩=false∧w.frozen? ⟨b,2,none⟩=false∧w.frozen? ⟨b,3,none⟩=false∧w.frozen? ⟨b,4,none⟩=false∧w.frozen? ⟨b,5,none⟩=false∧w.frozen? ⟨b,6,none⟩=false∧w.frozen? ⟨b,7,none⟩=false∧w.frozen? ⟨b,8,none⟩=false∧w.frozen? ⟨b,9,none⟩=false∧w.frozen? ⟨b,10,none⟩=false∧w.frozen? ⟨b,11,none⟩=false∧w.frozen? ⟨b,12,none⟩=false:=
  ⟨h.frozen_ 0,h.frozen_ 1,h.frozen_ 2,h.frozen_ 3,h.frozen_ 4,h.frozen_ 5,h.frozen_ 6,h.frozen_ 7,h.frozen_ 8,h.frozen_ 9,h.frozen_ 10,h.frozen_ 11,h.frozen_ 12⟩
theorem zy0{α:Type _}(l:List α)(i:Nat)(a:α):l.toArray.setIfInBounds i a=(l.set i a).toArray:=by simp only[List.setIfInBounds_toArray]
theorem zy1{α:Type _}(x a:α)(l:List α):(x::l).set 0 a=a::l:=rfl
theorem zy2{α:Type _}(x a:α)(l:List α)(n:Nat):(x::l).set (n+1) a=x::l.set n a:=rfl
theorem zy3{α:Type _}(l:List α):[]++l=l:=rfl
theorem zy4{α:Type _}(x:α)(k l:List α):(x::k)++l=x::(k++l):=rfl
theorem zy5{α:Type _}(l:List α)(i:Nat):l.toArray[i]? = l[i]?:=by simp only[List.getElem?_toArray]
theorem zy6{α:Type _}(x:α)(l:List α)(i:Nat):(x::l)[i+1]? = l[i]?:=rfl
theorem zy7{α:Type _}(x:α)(l:List α):(x::l)[0]? = some x:=rfl
end Go.Proofs.YthijbipidbjpfaaGreatDoor
namespace Go.Proofs.YthijbipidbjpfaaGreatDoor
open Go.RowKit Go.Maps
open Go.Shelf
attribute [local go_sem] Oper.semAt_some
def keysOf(s f c:Int):List (Int × Int):=[(1,s),(2,f)]++if c=0 then [] else [(3,c)]
theorem keys_in(F:Fence)(n:Nat)(h5:F.fn 185)(hro:F.round=none)(s f c:Int)(w:World) :
  CallsIn F n Tryz.prog 185 #[.agg #[.int .i64 s,.int .i64 f,.int .i64 c]] w fun e w'=>
   e=.returned (.func (.func 197) #[] #[.pointer (some ⟨w.heap.size,0,none⟩)])∧w'=w.alloc (.cells #[.int .i64 s,.int .i64 f,.int .i64 c] 106):=by
 refine callsIn_of_wp Tryz.func185 rfl h5 ?_ hro;simp only[Tryz.ntmps185,List.size_toArray,List.length_cons,List.length_nil,Nat.reduceAdd,Nat.reduceSub,Array.replicate_succ,Array.replicate_zero,List.push_toArray,List.append_toArray,List.nil_append,List.cons_append]
 gi_wp2
 go_ret;exact⟨rfl,rfl⟩
def KeepB(Bn:Nat)(W W':World):Prop:=W'.heap[Bn]? = W.heap[Bn]?
theorem keys1_in(F:Fence)(n:Nat)(h6:F.fn 197)(hro:F.round=none)(hn:1≤n)(l Bn:Nat)(s f c:Int)(J Jx:List (Int × Int)→World→Prop)
  (hY:∀ pre x W,J pre W→pre.length<(keysOf s f c).length→YieldAt F (n - 1) Tryz.prog l #[kv x] W fun e W'=>
   (e=.returned (.bool true)∧J (pre++[x]) W'∧KeepB Bn W W')∨(e=.returned (.bool false)∧Jx (pre++[x]) W'))
  (W:World) (hBn:Blk W Bn 106 #[.int .i64 s,.int .i64 f,.int .i64 c]) (h0:J [] W) :
  CallsIn F n Tryz.prog 197 #[.func (.yield l) #[] #[],.pointer (some ⟨Bn,0,none⟩)] W fun e W'=>(∃ v,e=.returned v) ∧
   ((∃ ys,ys=keysOf s f c∧J ys W')∨(∃ pre,pre <+: keysOf s f c∧Jx pre W')):=by
 refine callsIn_of_wp Tryz.func197 rfl h6 ?_ hro;simp only[Tryz.ntmps197,List.size_toArray,List.length_cons,List.length_nil,Nat.reduceAdd,Nat.reduceSub,Array.replicate_succ,Array.replicate_zero,List.push_toArray,List.append_toArray,List.nil_append,List.cons_append];have c0:=hBn.cell_ 0;have c1:=hBn.cell_ 1;have c2:=hBn.cell_ 2;simp at c0 c1 c2;obtain⟨fn1,tmps1,assign1,body1,hy1,hR1⟩:=hY [] (1,s) W h0 (by simp[keysOf]);dsimp only[kv] at hy1
 gi_wp2
 refine hR1.mono ?_;clear hR1 hy1;rintro e W1 (⟨rfl,j1,k1⟩ | ⟨rfl,jx⟩)
 ·have hB1:Blk W1 Bn 106 #[.int .i64 s,.int .i64 f,.int .i64 c]:=k1.trans hBn
  have d0:=hB1.cell_ 0;have d1:=hB1.cell_ 1;have d2:=hB1.cell_ 2;simp at d0 d1 d2;obtain⟨fn2,tmps2,assign2,body2,hy2,hR2⟩:=hY [(1,s)] (2,f) W1 j1 (by simp[keysOf]);dsimp only[kv] at hy2
  gi_wp2
  refine hR2.mono ?_;clear hR2 hy2;rintro e W2 (⟨rfl,j2,k2⟩ | ⟨rfl,jx⟩)
  ·have hB2:Blk W2 Bn 106 #[.int .i64 s,.int .i64 f,.int .i64 c]:=k2.trans hB1
   have e0:=hB2.cell_ 0;have e1:=hB2.cell_ 1;have e2:=hB2.cell_ 2;simp at e0 e1 e2
   by_cases hc:c=0
   ·subst hc
    gi_wp2
    go_end0
    exact⟨⟨_,rfl⟩,.inl ⟨_,rfl,by simpa [keysOf] using j2⟩⟩
   ·obtain⟨fn3,tmps3,assign3,body3,hy3,hR3⟩:=hY [(1,s),(2,f)] (3,c) W2 j2 (by simp[keysOf,hc])
    dsimp only[kv] at hy3
    gi_wp2
    refine hR3.mono ?_;clear hR3 hy3;rintro e W3 (⟨rfl,j3,k3⟩ | ⟨rfl,jx⟩)
    ·gi_wp2
     go_end0
     exact⟨⟨_,rfl⟩,.inl ⟨_,rfl,by simpa [keysOf,hc] using j3⟩⟩
    ·gi_wp2
     go_end0
     exact⟨⟨_,rfl⟩,.inr ⟨_,List.prefix_refl _,by simpa [keysOf,hc] using jx⟩⟩
  ·gi_wp2
   refine bodyPost_ret (results_none rfl _ _ _) rfl ?_;exact⟨⟨_,rfl⟩,.inr ⟨_,⟨_,rfl⟩,jx⟩⟩
 ·gi_wp2
  refine⟨fun _ h=>(by cases h),?_⟩
  gi_wp2
  refine bodyPost_ret (results_none rfl _ _ _) rfl ?_;exact⟨⟨_,rfl⟩,.inr ⟨[(1,s)],⟨[(2,f)]++if c=0 then [] else [(3,c)],by simp[keysOf]⟩,jx⟩⟩
theorem keys_stops(F:Fence)(n:Nat)(h6:F.fn 197)(hro:F.round=none)(hn:1≤n)(Bn:Nat)(s f c:Int)(w:World)(hBn:Blk w Bn 106 #[.int .i64 s,.int .i64 f,.int .i64 c]) :
  SeqStopsK F n Tryz.prog 197 #[.pointer (some ⟨Bn,0,none⟩)] (fun x:Int × Int=>#[kv x]) (KeepB Bn) (fun ys=>ys=keysOf s f c) (fun pre=>pre <+: keysOf s f c) (keysOf s f c).length w:=fun l J Jx W hW _ _ hY h0=>
 keys1_in F n h6 hro hn l Bn s f c J Jx hY W (hBn.below_ hW hBn.lt) h0
theorem keepB_t{Bn:Nat}{A B C:World}(h:KeepB Bn A B)(k:KeepB Bn B C):KeepB Bn A C:=Eq.trans k h
theorem keepB_b{Bn:Nat}{w:World}(hn:Bn<w.heap.size)(W:World)(l:Nat)(o o':Obj)(hl:w.heap.size≤l)(h:W.heap[l]? = some o)(_:o.isCells=false)(_:o.isWalk=false):KeepB Bn W (W.putObj l o'):=
 (belowK_b (n₀:=w.heap.size) (w:=w) (Nat.le_refl _) W l o o' hl h ‹_› ‹_›).block Bn hn
def addM(m:List ((Int × Int) × Int))(s f c i:Int):List ((Int × Int) × Int):=m++(keysOf s f c).map (fun k=>(k,i))
theorem grown_refl'(a:World)(row:Option Nat):a.grownBy a row:=⟨rfl,rfl,rfl,Nat.le_refl _,fun _ _ _=>rfl⟩
def clashM(m:List ((Int × Int) × Int))(s f c:Int):Bool:=(keysOf s f c).any (fun k=>(m.lookup k).isSome)
def addIf(m:List ((Int × Int) × Int))(s f c i:Int):List ((Int × Int) × Int):=if clashM m s f c then m else addM m s f c i
theorem fold_put(i:Int):∀ (ks:List (Int × Int)) (m:List ((Int × Int) × Int)),(∀ k ∈ ks,m.lookup k=none)→ks.Nodup→ks.foldl (fun m k=>putKL m k i) m=m++ks.map (fun k=>(k,i))
 | [],m,_,_=>by simp
 | k::ks,m,h,hn=>by
  rw[List.foldl_cons,putL_none i (h k (by simp)),fold_put i ks _ ?_ (List.nodup_cons.1 hn).2]
  ·simp
  ·intro k' hk'
   have hne:k'≠k:=fun e=>(List.nodup_cons.1 hn).1 (e ▸ hk')
   rw[List.lookup_append,h k' (by simp[hk'])];have:(k' == k)=false:=by simpa using hne
   simp[List.lookup_cons,this]
theorem keysOf_nodup(s f c:Int):(keysOf s f c).Nodup:=by
 unfold keysOf
 split <;> simp
theorem blk_own{β:Type}(B:Nat)(t:TypeId)(cs:β→Array Value):_root_.Go.Own (fun s W=>Blk W B t (cs s)):=fun s X Y row hs hg hrow=>
 (hg.block B hs.lt (fun e=>by
  obtain⟨o,ho,hc⟩:=hrow B e.symm
  rw[show X.heap[B]? = _ from hs] at ho
  cases ho;cases hc)).trans hs
theorem grown_own{B:Nat}{W0:World}(hB:W0.heap.size≤B)(ro:Option Nat){β:Type}:OwnFrom B (fun (_:β) W=>W0.grownBy W ro):=fun _ X Y row hs hg hr=>
 ⟨hg.os.trans hs.os,hg.tape.trans hs.tape,hg.output.trans hs.output,Nat.le_trans hs.size hg.size,fun k hk hne=>
  (hg.block k (Nat.lt_of_lt_of_le hk hs.size) (fun e=>by have:=(hr k e.symm).1;omega)).trans (hs.block k hk hne)⟩
theorem grown_any{A B:World}{r:Option Nat}(h:A.grownBy B none):A.grownBy B r:=⟨h.os,h.tape,h.output,h.size,fun k hk _=>h.block k hk (by simp)⟩
theorem add_in(F:Fence)(n:Nat)(h3:F.fn 163)(h4:F.fn 185)(h5:F.fn 197)(hro:F.round=none)(hn:6≤n)(B:Nat)(m:List ((Int × Int) × Int))(s f c i:Int)(w:World)(hm:MapK w B m) :
  CallsIn F n Tryz.prog 163 #[.map (some B),.agg #[.int .i64 s,.int .i64 f,.int .i64 c],.int .i64 i] w fun e W'=>
   e=.returned (.bool (!clashM m s f c))∧MapK W' B (addIf m s f c i)∧w.grownBy W' (some B):=by
 have h1:1≤n:=by omega
 have hBw:=hm.lt;refine callsIn_of_wp_marks Tryz.func163 rfl h3 ?_ hro;simp only[Tryz.ntmps163,List.size_toArray,List.length_cons,List.length_nil,Nat.reduceAdd,Nat.reduceSub,Array.replicate_succ,Array.replicate_zero,List.push_toArray,List.append_toArray,List.nil_append,List.cons_append]
 gi_wp2_with (gi_at_call 185;refine (keys_in F (n - 1) h4 hro _ _ _ _).mono ?_;rintro e w' ⟨rfl,rfl⟩)
 obtain⟨W0,hW0⟩:∃ W0,((((w.alloc (.cells #[.map (some B)] 152)).alloc (.cells #[.int .i64 s,.int .i64 f,.int .i64 c] 106)).alloc (.cells #[.int .i64 i] 3)).alloc (.cells #[.bool false] 4)).alloc (.cells #[.int .i64 s,.int .i64 f,.int .i64 c] 106)=W0:=⟨_,rfl⟩;have hsz:W0.heap.size=w.heap.size+5:=by rw[←hW0];simp
 have b0:Blk W0 w.heap.size 152 #[.map (some B)]:=by rw[←hW0];exact zbk
 have b1:Blk W0 (w.heap.size+1) 106 #[.int .i64 s,.int .i64 f,.int .i64 c]:=by rw[←hW0];exact zbk
 have b2:Blk W0 (w.heap.size+2) 3 #[.int .i64 i]:=by rw[←hW0];exact zbk
 have b3:Blk W0 (w.heap.size+3) 4 #[.bool false]:=by rw[←hW0];exact zbk
 have b4:Blk W0 (w.heap.size+4) 106 #[.int .i64 s,.int .i64 f,.int .i64 c]:=by rw[←hW0];exact zbk
 have hg0:w.grownBy W0 none:=by
  rw[←hW0];exact(((((World.grownBy_alloc w _ none).trans (World.grownBy_alloc _ _ none)).trans (World.grownBy_alloc _ _ none)).trans (World.grownBy_alloc _ _ none)).trans (World.grownBy_alloc _ _ none))
 have hm0:MapK W0 B m:=hm.grown_ hg0 (by simp);rw[hW0];clear hW0;refine wpIn_rangeFunc_ownH hro h1 (gf:=197) (lb:=#[.pointer (some ⟨w.heap.size+1+1+1+1,0,none⟩)]) rfl h5 (enters_of Tryz.func197 (by kernel_rfl) rfl)
  (keys_stops F (n - 1) h5 hro (by omega) (w.heap.size+4) s f c W0 b4) keepB_t (keepB_b (by omega)) (Below.refl _ _) (fun _=>rfl)
  (fun pre W=>(∀ k ∈ pre,m.lookup k=none)∧W0.grownBy W none)
  (fun co pre W=>co=.ret∧(∃ k ∈ pre,m.lookup k≠none)∧Blk W (w.heap.size+3) 4 #[.bool false]∧W0.grownBy W (some (w.heap.size+3)))
  (OwnFrom.and (fun _ _ _ _ hs _ _=>hs) (grown_own (Nat.le_refl _) none))
  (fun co=>OwnFrom.and (fun _ _ _ _ hs _ _=>hs) (OwnFrom.and (fun _ _ _ _ hs _ _=>hs) (OwnFrom.and (Own.from (blk_own _ _ _) _) (grown_own (Nat.le_refl _) _))))
  ⟨by simp,grown_refl' _ _⟩
  (fun x a' W=>∃ Bx,Blk W Bx 189 #[.int .i64 x.1,.int .i64 x.2]∧a'={ tmps:=#[.map (some B),.agg #[.int .i64 s,.int .i64 f,.int .i64 c],.int .i64 i,.pointer (some ⟨w.heap.size,0,none⟩),.pointer (some ⟨w.heap.size+1,0,none⟩),.pointer (some ⟨w.heap.size+1+1,0,none⟩),.pointer (some ⟨w.heap.size+1+1+1,0,none⟩),.pointer (some ⟨Bx,0,none⟩),undef,undef,undef,.agg #[.int .i64 s,.int .i64 f,.int .i64 c],.func (.func 197) #[] #[.pointer (some ⟨w.heap.size+1+1+1+1,0,none⟩)],.agg #[.int .i64 x.1,.int .i64 x.2],undef,undef,undef,undef,undef,undef,undef,undef,undef,undef,undef,undef,undef],defers:=[] })
  (fun x a' _ X Y row hs hg hr=>by obtain⟨Bx,h2,h3⟩:=hs;exact⟨Bx,blk_own Bx _ (fun (_:Unit)=>#[.int .i64 x.1,.int .i64 x.2]) () X Y row h2 hg (fun r e=>(hr r e).2),h3⟩)
  ?assign ?body ?done ?stop
 case assign=>
  rintro l pre x W K ⟨hp,hg⟩ hK;dsimp only[kv]
  gi_wp2
  exact hK _ _ ((KeepsOthers.alloc _ _).from _) (Below.heap_alloc W _ _ (by have:=hg.size;omega)) ⟨hp,hg.trans (World.grownBy_alloc _ _ none)⟩ ⟨W.heap.size,Blk.new_ rfl rfl,rfl⟩
 case body=>
  rintro l pre x a' W hl ⟨r,hr⟩ ⟨hp,hg⟩ ⟨Bx,bX,rfl⟩ hlt;have bM:Blk W w.heap.size 152 #[.map (some B)]:=(hg.block _ (by omega) (by simp)).trans b0;have bR:Blk W (w.heap.size+3) 4 #[.bool false]:=(hg.block _ (by omega) (by simp)).trans b3;have c0:=bM.cell_ 0;have c3:=bR.cell_ 0;have f3:=bR.frozen_ 0;have x0:=bX.cell_ 0;have x1:=bX.cell_ 1;simp at c0 c3 x0 x1;have hlk:=run_lookK (hm0.grown_ hg (by simp)) x
  cases hk:m.lookup x with
  | none=>
   rw[hk] at hlk;simp only[okOf] at hlk
   gi_wp2
   exact⟨KeepsFrom.refl _ _,rfl,fun k hk'=>by
    rcases List.mem_append.1 hk' with h | h
    ·exact hp k h
    ·simp at h;subst h;exact hk,hg⟩
  | some v=>
   rw[hk] at hlk;simp only[okOf] at hlk
   gi_wp2
   exact⟨(KeepsOthers.setCell _ _ _).from _,rfl,⟨x,by simp,by simp[hk]⟩,bR.set_ 0 _,(grown_any hg).trans (grownBy_setCell' W (w.heap.size+3) _)⟩
 case done=>
  rintro D zs W hD rfl ⟨hp,hg⟩ hK;have bW:Blk W (w.heap.size+1) 106 #[.int .i64 s,.int .i64 f,.int .i64 c]:=(hg.block _ (by omega) (by simp)).trans b1;have c0:=bW.cell_ 0;have c1:=bW.cell_ 1;have c2:=bW.cell_ 2;simp at c0 c1 c2
  gi_wp2_with (gi_at_call 185;refine (keys_in F (n - 1) h4 hro _ _ _ _).mono ?_;rintro e w' ⟨rfl,rfl⟩)
  obtain⟨W1,hW1⟩:∃ W1,W.alloc (.cells #[.int .i64 s,.int .i64 f,.int .i64 c] 106)=W1:=⟨_,rfl⟩;have hsz1:W1.heap.size=W.heap.size+1:=by rw[←hW1];simp
  have hsW:=hg.size;have hDW:=(Array.getElem?_eq_some_iff.1 hK).1;have hg1:W.grownBy W1 none:=by rw[←hW1];exact World.grownBy_alloc _ _ none
  have b5:Blk W1 W.heap.size 106 #[.int .i64 s,.int .i64 f,.int .i64 c]:=by rw[←hW1];exact zbk
  have hG:W0.grownBy W1 none:=hg.trans hg1;have d0:Blk W1 w.heap.size 152 #[.map (some B)]:=(hG.block _ (by omega) (by simp)).trans b0;have d2:Blk W1 (w.heap.size+2) 3 #[.int .i64 i]:=(hG.block _ (by omega) (by simp)).trans b2;have d3:Blk W1 (w.heap.size+3) 4 #[.bool false]:=(hG.block _ (by omega) (by simp)).trans b3;have hm1:MapK W1 B m:=hm0.grown_ hG (by simp);have hK1:W1.heap[D]? = some (.deferred (some [])):=(hg1.block _ hDW (by simp)).trans hK;rw[hW1];clear hW1;refine wpIn_rangeFunc_ownH hro h1 (gf:=197) (lb:=#[.pointer (some ⟨W.heap.size,0,none⟩)]) rfl h5 (enters_of Tryz.func197 (by kernel_rfl) rfl)
   (keys_stops F (n - 1) h5 hro (by omega) W.heap.size s f c W1 b5) keepB_t (keepB_b (by omega)) (Below.refl _ _) (fun _=>rfl)
   (fun pre V=>MapK V B (pre.foldl (fun m k=>putKL m k i) m)∧W1.grownBy V (some B))
   (fun _ _ _=>False)
   (OwnFrom.and (fun _ X Y row hs hg hr=>hs.grown_ hg (fun e=>by have:=(hr B e).1;omega)) (grown_own (Nat.le_refl _) _))
   (fun _ _ _ _ _ hs _ _=>hs)
   ⟨hm1,grown_refl' _ _⟩
   (fun x a' V=>∃ Bx,W1.heap.size≤Bx∧Blk V Bx 189 #[.int .i64 x.1,.int .i64 x.2]∧a'={ tmps:=#[.map (some B),.agg #[.int .i64 s,.int .i64 f,.int .i64 c],.int .i64 i,.pointer (some ⟨w.heap.size,0,none⟩),.pointer (some ⟨w.heap.size+1,0,none⟩),.pointer (some ⟨w.heap.size+1+1,0,none⟩),.pointer (some ⟨w.heap.size+1+1+1,0,none⟩),undef,undef,undef,.pointer (some ⟨Bx,0,none⟩),.agg #[.int .i64 s,.int .i64 f,.int .i64 c],.func (.func 197) #[] #[.pointer (some ⟨w.heap.size+1+1+1+1,0,none⟩)],undef,undef,undef,undef,undef,undef,undef,undef,.agg #[.int .i64 s,.int .i64 f,.int .i64 c],.func (.func 197) #[] #[.pointer (some ⟨W.heap.size,0,none⟩)],.agg #[.int .i64 x.1,.int .i64 x.2],undef,undef,undef],defers:=[] })
   (fun x a' _ X Y row hs hg hr=>by obtain⟨Bx,h1,h2,h3⟩:=hs;exact⟨Bx,h1,blk_own Bx _ (fun (_:Unit)=>#[.int .i64 x.1,.int .i64 x.2]) () X Y row h2 hg (fun r e=>(hr r e).2),h3⟩)
   ?assign2 ?body2 ?done2 ?stop2
  case assign2=>
   rintro l pre x V K ⟨hp,hg⟩ hK;dsimp only[kv]
   gi_wp2
   exact hK _ _ ((KeepsOthers.alloc _ _).from _) (Below.heap_alloc V _ _ (by have:=hg.size;omega)) ⟨hp.grown_ (World.grownBy_alloc _ _ none) (by simp),hg.trans (World.grownBy_alloc _ _ _)⟩ ⟨V.heap.size,hg.size,Blk.new_ rfl rfl,rfl⟩
  case body2=>
   rintro l pre x a' V hl ⟨r,hr⟩ ⟨hp,hg⟩ ⟨Bx,hBx,bX,rfl⟩ hlt;have e0:Blk V w.heap.size 152 #[.map (some B)]:=(hg.block _ (by omega) (by simp;omega)).trans d0;have e2:Blk V (w.heap.size+2) 3 #[.int .i64 i]:=(hg.block _ (by omega) (by simp;omega)).trans d2;have c0:=e0.cell_ 0;have c2:=e2.cell_ 0;have x0:=bX.cell_ 0;have x1:=bX.cell_ 1;simp at c0 c2 x0 x1;obtain⟨V',hrun,hp',hg',hs'⟩:=run_putK hp x i
   gi_wp2
   exact⟨KeepsFrom.of_grownBy hg' (fun j e=>by cases e;omega),hg'.block _ (by have:=hg.size;omega) (by simp;omega),by rw[List.foldl_append];exact hp',hg.trans hg'⟩
  case done2=>
   rintro D2 zs V hD2 rfl ⟨hp2,hg2⟩ hK2;have e3:Blk V (w.heap.size+3) 4 #[.bool false]:=(hg2.block _ (by omega) (by simp;omega)).trans d3;have hKV:V.heap[D]? = some (.deferred (some [])):=(hg2.block _ (by omega) (by simp;omega)).trans hK1;have c3:=e3.cell_ 0;have f3:=e3.frozen_ 0;simp at c3
   gi_wp2
   have hV:=hg2.size;have g1:=grownBy_setCell' V (w.heap.size+3) (.bool true);have s1:=g1.size;have g2:=grownBy_putObj' (V.setCell ⟨w.heap.size+3,0,none⟩ (.bool true)) D2 (.deferred none);have s2:=g2.size;have k2:((V.setCell ⟨w.heap.size+3,0,none⟩ (.bool true)).putObj D2 (.deferred none)).heap[D]? = some (.deferred (some [])):=(g2.block D (by omega) (by simp;omega)).trans ((g1.block D (by omega) (by simp;omega)).trans hKV);have g3:=grownBy_putObj' ((V.setCell ⟨w.heap.size+3,0,none⟩ (.bool true)).putObj D2 (.deferred none)) D (.deferred none);have s3:=g3.size;refine⟨by simp,.inl ⟨_,_,rfl,run_takeDeferred ((KeepsOthers.setCell _ _ _).same D2 _ hK2 rfl),⟨by simp,.inl ⟨_,_,rfl,run_takeDeferred k2,?_⟩⟩⟩⟩;obtain⟨X,hX⟩:∃ X,((V.setCell ⟨w.heap.size+3,0,none⟩ (.bool true)).putObj D2 (.deferred none)).putObj D (.deferred none)=X:=⟨_,rfl⟩;rw[hX] at g3 s3;have bR:Blk X (w.heap.size+3) 4 #[.bool true]:=(g3.block _ (by omega) (by simp;omega)).trans ((g2.block _ (by omega) (by simp;omega)).trans (e3.set_ 0 (.bool true)));have c4:=bR.cell_ 0;simp at c4;have hmX:MapK X B (keysOf s f c |>.foldl (fun m k=>putKL m k i) m):=((hp2.grown_ g1 (by simp;omega)).grown_ g2 (by simp;omega)).grown_ g3 (by simp;omega)
   have hgX:w.grownBy X (some B):=
    ⟨g3.os.trans (g2.os.trans (g1.os.trans (hg2.os.trans (hG.os.trans hg0.os)))),g3.tape.trans (g2.tape.trans (g1.tape.trans (hg2.tape.trans (hG.tape.trans hg0.tape)))),
     g3.output.trans (g2.output.trans (g1.output.trans (hg2.output.trans (hG.output.trans hg0.output)))),by omega,fun k hk hne=>
     (g3.block k (by omega) (by simp;omega)).trans ((g2.block k (by omega) (by simp;omega)).trans ((g1.block k (by omega) (by simp;omega)).trans ((hg2.block k (by omega) hne).trans ((hG.block k (by omega) (by simp)).trans (hg0.block k hk (by simp))))))⟩
   have hcl:clashM m s f c=false:=by
    unfold clashM;rw[List.any_eq_false];intro k hk;rw[hp k hk];simp
   show LeavesInM _ _ _ _ _ _ [] .returning (((V.setCell ⟨w.heap.size+3,0,none⟩ (.bool true)).putObj D2 (.deferred none)).putObj D (.deferred none));rw[hX];refine⟨.bool true,?_,by rw[hcl];rfl,?_,hgX⟩
   ·simp[results,Tryz.f163,go_sem,c4]
   ·unfold addIf
    rw[hcl];unfold addM;rw[←fold_put i (keysOf s f c) m hp (keysOf_nodup s f c)];exact hmX
  case stop2=>
   rintro D c pre W _ _ h _;exact h.elim
 case stop=>
  rintro D co pre W hD hpr ⟨rfl,hex,bR,hg⟩ hK
  gi_wp2
  refine⟨by simp,.inl ⟨_,_,rfl,run_takeDeferred hK,?_⟩⟩;have bR':Blk (W.putObj D (.deferred none)) (w.heap.size+3) 4 #[.bool false]:=blk_own (β:=Unit) _ _ (fun _=>#[.bool false]) () _ _ _ bR (grownBy_putObj' _ D (.deferred none)) (fun r e=>by cases e;exact⟨_,hK,rfl⟩);have c3:=bR'.cell_ 0;simp at c3
  have hcl:clashM m s f c=true:=by
   obtain⟨k,hk,hne⟩:=hex;unfold clashM;rw[List.any_eq_true];exact⟨k,hpr.subset hk,by rw[Option.isSome_iff_ne_none];exact hne⟩
  have hG:w.grownBy (W.putObj D (.deferred none)) none:=by
   have h1:=grownBy_putObj' W D (.deferred none)
   exact⟨h1.os.trans (hg.os.trans hg0.os),h1.tape.trans (hg.tape.trans hg0.tape),h1.output.trans (hg.output.trans hg0.output),Nat.le_trans hg0.size (Nat.le_trans hg.size h1.size),fun k hk _=>
    (h1.block k (by have:=hg.size;omega) (by simp;omega)).trans ((hg.block k (by omega) (by simp;omega)).trans (hg0.block k hk (by simp)))⟩
  refine⟨.bool false,?_,by rw[hcl];rfl,?_,grown_any hG⟩
  ·simp[results,Tryz.f163,go_sem,c3]
  ·unfold addIf
   rw[hcl];exact hm.grown_ hG (by simp)
theorem add_c(B:Nat)(m:List ((Int × Int) × Int))(s f c i:Int)(w:World)(hm:MapK w B m) :
  Calls Tryz.prog 163 #[.map (some B),.agg #[.int .i64 s,.int .i64 f,.int .i64 c],.int .i64 i] w fun e W'=>
   e=.returned (.bool (!clashM m s f c))∧MapK W' B (addIf m s f c i)∧w.grownBy W' (some B):=
 (callsIn_wide (n:=6)).1 (add_in Fence.wide 6 trivial trivial trivial rfl (Nat.le_refl _) B m s f c i w hm)
end Go.Proofs.YthijbipidbjpfaaGreatDoor
namespace Go.Proofs.YthijbipidbjpfaaGreatDoor
open Go.RowKit Go.Maps
theorem intInfo:(Tryz.prog.info? 3).map (fun i=>(i.zero,i.size,i.bytes))=some (some (.int .i64 0),1,8):=by kernel_rfl
def Own{α:Type}(w:World)(base:Nat)(E:TypeId)(mk:α→Value)(v:Value)(xs:List α):Prop:=w.ownsRow base E 1 v xs.length (xs.map mk)
theorem int_one(xs:List Int):∀ u ∈ xs.map (Value.int .i64),u.oneCell'=true:=by
 intro u hu;obtain⟨x,_,rfl⟩:=List.mem_map.1 hu;rfl
theorem Sl.cells{α:Type}{w:World}{mk:α→Value}{b off:Nat}{sp}{xs:List α}(h:Sl w mk (some ⟨b,off,sp⟩) xs) :
  ∀ j u,(xs.map mk)[j]? = some u→w.cell? ((⟨b,off,sp⟩:Addr).add j)=some u:=by
 intro j u hu;rw[List.getElem?_map] at hu
 cases hx:xs[j]? with
 | none=>rw[hx] at hu;cases hu
 | some x=>
  rw[hx] at hu;obtain⟨b',off',e,_,hc⟩:=h (by have:=(List.getElem?_eq_some_iff.1 hx).1;omega);injection e with e
  injection e with e1 e2 e3
  subst e1 e2 e3;rw[Addr.add_lit,hc j x hx];simpa using hu
theorem grown_refl(a:World)(row:Option Nat):a.grownBy a row:=⟨rfl,rfl,rfl,Nat.le_refl _,fun _ _ _=>rfl⟩
theorem Own.form{α:Type}{w:World}{base:Nat}{E:TypeId}{mk:α→Value}{v:Value}{xs:List α}(h:Own w base E mk v xs) :
  (v=.slice none 0 0∧xs=[]) ∨ ∃ g cur,v=.slice (some ⟨g,0,none⟩) xs.length cur.size∧base≤g∧Blk w g E cur∧xs.length≤cur.size∧cur.size≤maxLen∧(∀ (j:Nat) x,xs[j]? = some x→cur[j]? = some (mk x)):=by
 obtain⟨_,h | ⟨g,cap,cur,rfl,hb,hh,h1,h2,h3,h4⟩⟩:=h
 ·exact .inl ⟨h.1,List.eq_nil_of_length_eq_zero h.2⟩
 ·obtain rfl:cap=cur.size:=by omega
  refine .inr ⟨g,cur,rfl,hb,hh,h1,h2,fun j x hx => ?_⟩;have hj:=(List.getElem?_eq_some_iff.1 hx).1;have:=congrArg (fun l=>l[j]?) h4;simp only[List.getElem?_take,List.getElem?_map,hx,Option.map_some] at this;rw[if_pos (by omega)] at this;simpa using this
theorem Own.sl{α:Type}{w:World}{base:Nat}{E:TypeId}{mk:α→Value}{v:Value}{xs:List α}(h:Own w base E mk v xs):∃ A c,v=.slice A xs.length c∧Sl w mk A xs:=by
 rcases h.form with ⟨rfl,rfl⟩ | ⟨g,cur,rfl,_,hh,_,_,hc⟩
 ·exact⟨none,0,rfl,Sl.nil⟩
 ·exact⟨_,_,rfl,Sl.of_blk hh hc⟩
abbrev Wr:=Int × Int × Int
def flat(l:List Wr):List Int:=l.flatMap fun x=>[x.1,x.2.1,x.2.2]
theorem flat_length(l:List Wr):(flat l).length=l.length*3:=by
 induction l with
 | nil=>rfl
 | cons x l ih=>simp only[flat,List.flatMap_cons,List.length_append] at ih ⊢;rw[ih];simp;omega
theorem flat_append(l k:List Wr):flat (l++k)=flat l++flat k:=by simp[flat]
theorem flat_at{x:Wr}:∀ {l:List Wr} {k:Nat},l[k]? = some x→(flat l)[k*3]? = some x.1∧(flat l)[k*3+1]? = some x.2.1∧(flat l)[k*3+2]? = some x.2.2
 | [],_,h=>by simp at h
 | y::l,0,h=>by
  simp only[List.getElem?_cons_zero,Option.some.injEq] at h;subst h;simp[flat]
 | y::l,k+1,h=>by
  obtain⟨h1,h2,h3⟩:=flat_at (l:=l) (k:=k) (by simpa using h);have e:flat (y::l)=y.1::y.2.1::y.2.2::flat l:=rfl;rw[e];refine⟨?_,?_,?_⟩
  ·rw[show (k+1)*3=k*3+1+1+1 by omega];simpa using h1
  ·rw[show (k+1)*3+1=k*3+1+1+1+1 by omega];simpa using h2
  ·rw[show (k+1)*3+2=k*3+2+1+1+1 by omega];simpa using h3
def SW(w:World)(A:Option Addr)(l:List Wr):Prop:=Sl w (Value.int .i64) A (flat l)
theorem SW.ext{w w':World}{A:Option Addr}{l:List Wr}(h:SW w A l)(hb:Below w.heap.size w w'):SW w' A l:=Sl.ext h hb
theorem SW.nil{w:World}{A:Option Addr}:SW w A []:=Sl.nil
theorem SW.at_{w:World}{A:Option Addr}{l:List Wr}{k:Nat}(h:SW w A l)(hk:k<l.length) :
  ∃ b off x,A=some ⟨b,off,none⟩∧b<w.heap.size∧l[k]? = some x∧w.cell? ⟨b,off+k*3,none⟩=some (.int .i64 x.1)∧w.cell? ⟨b,off+k*3+1,none⟩=some (.int .i64 x.2.1)∧w.cell? ⟨b,off+k*3+2,none⟩=some (.int .i64 x.2.2):=by
 obtain⟨b,off,e,hb,hc⟩:=h (by rw[flat_length];omega);obtain⟨h1,h2,h3⟩:=flat_at (l:=l) (k:=k) (x:=l[k]) (List.getElem?_eq_getElem hk);exact⟨b,off,l[k],e,hb,List.getElem?_eq_getElem hk,hc _ _ h1,hc _ _ h2,hc _ _ h3⟩
theorem eq_wr(w:World)(x y:Wr):(Op.equal 106 (.agg #[.int .i64 x.1,.int .i64 x.2.1,.int .i64 x.2.2]) (.agg #[.int .i64 y.1,.int .i64 y.2.1,.int .i64 y.2.2])).run Tryz.prog w=.ok (decide (x=y)) w:=by
 have hs:Tryz.prog.stoodInHeld 106=false:=by kernel_rfl
 obtain⟨a,b,c⟩:=x;obtain⟨d,e,f⟩:=y;have h0:=part_int w #[.int .i64 a,.int .i64 b,.int .i64 c] 0 (.int .i64 a) rfl;have h1:=part_int w #[.int .i64 a,.int .i64 b,.int .i64 c] 1 (.int .i64 b) rfl;have h2:=part_int w #[.int .i64 a,.int .i64 b,.int .i64 c] 2 (.int .i64 c) rfl;have h3:=part_int w #[.int .i64 d,.int .i64 e,.int .i64 f] 0 (.int .i64 d) rfl;have h4:=part_int w #[.int .i64 d,.int .i64 e,.int .i64 f] 1 (.int .i64 e) rfl;have h5:=part_int w #[.int .i64 d,.int .i64 e,.int .i64 f] 2 (.int .i64 f) rfl;have e1:=eqIn_int w 9998 a d;have e2:=eqIn_int w 9998 b e;have e3:=eqIn_int w 9998 c f;unfold Op.equal;show (Op.equalIn (9999+1) _ _ _).run _ _=_;unfold Op.equalIn;simp only[Sem.run_bind,run_underlying Tryz.underlying106,Result.andThen_ok];simp[hs,h0,h1,h2,h3,h4,h5,e1,e2,e3]
 by_cases h:a=d <;> by_cases h':b=e <;> by_cases h'':c=f <;> simp[h,h',h'']
theorem isSlot_b(n:Int)(b:Bool)(hb:decide (0≤n∧n<256)=b)(w:World):Calls Tryz.prog 161 #[.int .i64 n] w fun e w'=>e=.returned (.bool b)∧w=w':=by
 have HB:=Lib.hid hb;clear hb
 go_enter Tryz.func161,Tryz.ntmps161
 go_wp2
 all_goals
  go_ret
  refine⟨ret_bool ?_,rfl⟩
  have:=HB.out
  first | (rw[←this,decide_eq_true (by omega)];done) | (rw[←this,decide_eq_false (by omega)];done) | (simp_all;done) | (simp_all;omega)
theorem isFrame_b(n:Int)(b:Bool)(hb:decide (0≤n∧n<256)=b)(w:World):Calls Tryz.prog 162 #[.int .i64 n] w fun e w'=>e=.returned (.bool b)∧w=w':=by
 have HB:=Lib.hid hb;clear hb
 go_enter Tryz.func162,Tryz.ntmps162
 go_wp2
 all_goals
  go_ret
  refine⟨ret_bool ?_,rfl⟩
  have:=HB.out
  first | (rw[←this,decide_eq_true (by omega)];done) | (rw[←this,decide_eq_false (by omega)];done) | (simp_all;done) | (simp_all;omega)
theorem isProc_b(n:Int)(b:Bool)(hb:decide (1≤n∧n≤8)=b)(w:World):Calls Tryz.prog 153 #[.int .i64 n] w fun e w'=>e=.returned (.bool b)∧w=w':=by
 have HB:=Lib.hid hb;clear hb
 go_enter Tryz.func153,Tryz.ntmps153
 go_wp2
 all_goals
  go_ret
  refine⟨ret_bool ?_,rfl⟩
  have:=HB.out
  first | (rw[←this,decide_eq_true (by omega)];done) | (rw[←this,decide_eq_false (by omega)];done) | (simp_all;done) | (simp_all;omega)
end Go.Proofs.YthijbipidbjpfaaGreatDoor
