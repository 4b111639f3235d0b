import Derived.Test.YthijbipidbjpfaaGreatDoorZP00
import Derived.Conc.LoneCalls
import Derived.Conc.LoneSelect
import Derived.Test.YthijbipidbjpfaaGreatDoorZP01
set_option linter.unusedSimpArgs false
set_option linter.unusedVariables false
set_option maxRecDepth 100000
set_option maxHeartbeats 8000000
namespace Go.Proofs.YthijbipidbjpfaaGreatDoor
open Go.RowKit Go.Maps
open Go.Conc
section
variable {P : Program} {Q : Exit → Act → World → Prop} {a : Act} {w : World} {x y c : Code} {ops : Array Oper} {i : Nat} {rest : List Nat} {o : Oper}
def ToN(P:Program)(it:Item)(Q:Exit→Act→World→Prop)(a:Act)(w:World):Prop:=
 ∀ b:Frame,b.kind≠.early→∀ (k:List Item) (cs:List Frame),∃ e a' w',Q e a' w'∧Arrives P (lone (b.at a (it::k)) cs w) b k cs e a' w'
def WpN(P:Program)(c:Code)(Q:Exit→Act→World→Prop)(a:Act)(w:World):Prop:=ToN P (.code c) Q a w
def OpsN(P:Program)(ops:Array Oper)(l:List Nat)(Q:Exit→Act→World→Prop)(a:Act)(w:World):Prop:=ToN P (.inRegion ops l) Q a w
theorem WpN.of(h:c.wp P Q a w):WpN P c Q a w:=fun b _ k cs=>h b k cs
theorem OpsN.of{l:List Nat}(h:wpOps P ops Q l a w):OpsN P ops l Q a w:=fun b _ k cs=>wp_ops l a w h b k cs
theorem WpN.seq(h:WpN P x (Exit.then (WpN P y Q) Q) a w):WpN P (.seq x y) Q a w:=by
 intro b hb k cs;obtain⟨e,a₁,w₁,hq,harr⟩:=h b hb (.code y::k) cs
 cases e with
 | normal=>
  obtain⟨e₂,a₂,w₂,hq₂,harr₂⟩:=hq b hb k cs;exact⟨e₂,a₂,w₂,hq₂,.of_steps (.head step_seq harr) harr₂⟩
 | _=>exact⟨_,a₁,w₁,hq,.of_steps (.one step_seq) (.pass (x:=.code y) rfl (fun _ _=>.inl (by simp)) harr)⟩
theorem WpN.seq_k(h:∀ K:Act→World→Prop,(∀ a w,WpN P y Q a w→K a w)→x.wp P (Exit.then K Q) a w):WpN P (.seq x y) Q a w:=
 .seq (.of (h _ fun _ _ h=>h))
theorem WpN.block{id:Nat}(h:WpN P c (Exit.inBlock id Q) a w):WpN P (.block id c) Q a w:=by
 intro b hb k cs;obtain⟨e,a₁,w₁,hq,harr⟩:=h b hb (.inBlock id::k) cs
 cases e with
 | normal=>exact⟨.normal,a₁,w₁,hq,.head step_block (Steps.trans harr (.one step_inBlock))⟩
 | exit id'=>
  by_cases hid:id'=id
  ·simp only[Exit.inBlock,hid,if_true] at hq
   exact⟨.normal,a₁,w₁,hq,.head step_block (harr k (by simp[exitTo,hid]))⟩
  ·simp only[Exit.inBlock,hid,if_false] at hq
   refine⟨.exit id',a₁,w₁,hq,fun k' hk=>.head step_block (harr k' ?_)⟩
   have:(id == id')=false:=by simp;exact fun h=>hid h.symm
   simp[exitTo,this,hk]
 | goto l=>exact⟨_,a₁,w₁,hq,fun k' hk=>.head step_block (harr k' (by simp[gotoIn,hk]))⟩
 | ret=>exact⟨_,a₁,w₁,hq,.of_steps (.one step_block) harr⟩
 | panic ch=>exact⟨_,a₁,w₁,hq,.of_steps (.one step_block) harr⟩
 | outgrown=>exact⟨_,a₁,w₁,hq,.of_steps (b:=b) (k:=k) (cs:=cs) (e:=.outgrown) (.one step_block) harr⟩
theorem WpN.loop(I:Act→World→Prop)(μ:Act→World→Nat)(h₀:I a w)
  (round:∀ a w,I a w→WpN P c (Exit.then (fun a' w'=>I a' w'∧μ a' w'<μ a w) Q) a w):WpN P (.loop c) Q a w:=by
 intro b hb k cs
 have key:∀ n a w,μ a w=n→I a w→∃ e a' w',Q e a' w'∧Arrives P (lone (b.at a (.code c::.inLoop c::k)) cs w) b k cs e a' w':=by
  intro n
  induction n using Nat.strongRecOn with
  | _ n ih=>
   intro a w hn hI;obtain⟨e,a₁,w₁,hq,harr⟩:=round a w hI b hb (.inLoop c::k) cs
   cases e with
   | normal=>
    obtain⟨hI₁,hlt⟩:=hq;obtain⟨e₂,a₂,w₂,hq₂,harr₂⟩:=ih (μ a₁ w₁) (hn ▸ hlt) a₁ w₁ rfl hI₁;exact⟨e₂,a₂,w₂,hq₂,.of_steps (Steps.trans harr (.one step_inLoop)) harr₂⟩
   | _=>exact⟨_,a₁,w₁,hq,.pass (x:=.inLoop c) rfl (fun _ _=>.inl (by simp)) harr⟩
 obtain⟨e,a',w',hq,harr⟩:=key _ a w rfl h₀;exact⟨e,a',w',hq,.of_steps (.one step_loop) harr⟩
theorem WpN.region{id:Nat}(h:OpsN P ops (List.range ops.size) Q a w):WpN P (.region id ops false) Q a w:=
 fun b hb k cs=>let ⟨e,a',w',q,r⟩:=h b hb k cs;⟨e,a',w',q,.of_steps (.one step_region) r⟩
theorem OpsN.value{v:Value}{w':World}(ho:ops[i]? = some o)(hw:Region.wanted o (yielded ops a.tmps)=true)(hr:(execOp a.eval o).run P w=.ok (.value v) w')
  (h:OpsN P ops rest Q (a.put o.dst v) w'):OpsN P ops (i::rest) Q a w:=by
 intro b hb k cs;obtain⟨e,a',w'',hq,harr⟩:=h b hb k cs;exact⟨e,a',w'',hq,.of_steps (.one (step_solo_go rfl (stepG_value (P:=P) (main:=true) (k:=k) (cs:=cs) (rest:=rest) ho hw hb hr))) harr⟩
section
variable {ch cap s r : Nat} {buf : Array Value} {z v : Value} {tm closed : Bool}
theorem OpsN.send(ho:ops[i]? = some o)(hw:Region.wanted o (yielded ops a.tmps)=true)(hr:(execOp a.eval o).run P w=.ok (.comm #[scase ch v z] true .send) w)
  (hc:w.heap[ch]? = some (.chan cap buf false s r tm)) (hroom:buf.size<cap)
  (h:OpsN P ops rest Q (a.put o.dst undef) (w.setChan ch cap (buf.push v) false (s+1) r tm)):OpsN P ops (i::rest) Q a w:=by
 intro b hb k cs;obtain⟨e,a',w'',hq,harr⟩:=h b hb k cs;have hs:=step_lone_send_room (stepG_comm (P:=P) (main:=true) (k:=k) (cs:=cs) (rest:=rest) ho hw hb hr) hc hroom;rw[Frame.finish_at,ho] at hs;exact⟨e,a',w'',hq,.of_steps (.one hs) harr⟩
theorem OpsN.take(ho:ops[i]? = some o)(hw:Region.wanted o (yielded ops a.tmps)=true)(hr:(execOp a.eval o).run P w=.ok (.comm #[rcase ch z] false .select) w)
  (hc:w.heap[ch]? = some (.chan cap buf closed s r tm)) (hsome:0<buf.size)
  (h:OpsN P ops rest Q (a.put o.dst (.tuple #[goInt 0,.bool true,buf.getD 0 undef])) (w.setChan ch cap (buf.extract 1 buf.size) closed s (r+1) tm)):OpsN P ops (i::rest) Q a w:=by
 intro b hb k cs;obtain⟨e,a',w'',hq,harr⟩:=h b hb k cs;have hs:=step_lone_select_recv_buf (stepG_comm (P:=P) (main:=true) (k:=k) (cs:=cs) (rest:=rest) ho hw hb hr) hc hsome;rw[Frame.finish_at,ho] at hs;exact⟨e,a',w'',hq,.of_steps (.one hs) harr⟩
theorem OpsN.takeL{vs:List Value}(ho:ops[i]? = some o)(hw:Region.wanted o (yielded ops a.tmps)=true)(hr:(execOp a.eval o).run P w=.ok (.comm #[rcase ch z] false .select) w)
  (hc:w.heap[ch]? = some (.chan cap (v::vs).toArray closed s r tm))
  (h:OpsN P ops rest Q (a.put o.dst (.tuple #[goInt 0,.bool true,v])) (w.setChan ch cap vs.toArray closed s (r+1) tm)):OpsN P ops (i::rest) Q a w:=by
 refine OpsN.take ho hw hr hc (by simp) ?_;have e1:(v::vs).toArray.extract 1 (v::vs).toArray.size=vs.toArray:=by simp
 have e2:(v::vs).toArray.getD 0 undef=v:=by simp
 rw[e1,e2];exact h
theorem OpsN.val{v:Value}(ho:ops[i]? = some o)(hw:Region.wanted o (yielded ops a.tmps)=true)(hr:(execOp a.eval o).run P w=.ok (.value v) w)(h:OpsN P ops rest Q (a.put o.dst v) w):OpsN P ops (i::rest) Q a w:=OpsN.value ho hw hr h
theorem OpsN.none(ho:ops[i]? = some o)(hw:Region.wanted o (yielded ops a.tmps)=true)(hr:(execOp a.eval o).run P w=.ok (.comm #[rcase ch z] false .select) w)
  (hc:w.heap[ch]? = some (.chan cap #[] false s r tm))
  (h:OpsN P ops rest Q (a.put o.dst (.tuple #[goInt (-1),.bool false,z])) w):OpsN P ops (i::rest) Q a w:=by
 intro b hb k cs;obtain⟨e,a',w'',hq,harr⟩:=h b hb k cs;have hs:=step_lone_select_default (stepG_comm (P:=P) (main:=true) (k:=k) (cs:=cs) (rest:=rest) ho hw hb hr) hc;rw[Frame.finish_at,ho] at hs;exact⟨e,a',w'',hq,.of_steps (.one hs) harr⟩
end
theorem calls_of_wpN{f:FuncId}{fn:Func}{args:Array Value}{R:Ending→World→Prop}(hf:P.funcs[f]? = some fn)(hb:fn.body=some c)
  (h:WpN P c (bodyPost P fn R) { tmps:=args++Array.replicate (fn.ntmps - args.size) undef,defers:=[] } w):Calls P f args w R:=by
 intro cs
 let b:Frame:={ (default:Frame) with fn:=f,kind:=.normal }
 have henter:Frame.enter P f args .normal=b.at { tmps:=args++Array.replicate (fn.ntmps - args.size) undef,defers:=[] } [.code c]:=by simp[Frame.enter,Frame.at,hf,hb,b]
 obtain⟨e,a',w',hq,harr⟩:=h b (by simp[b]) [] cs;rw[←henter] at harr
 cases e with
 | normal=>
  obtain⟨hd,v,hr,hR⟩:=hq;exact⟨.returned v,w',_,hR,Steps.trans harr (.one step_end),rfl,rfl,hd,rfl,fn,hf,hr⟩
 | ret=>
  obtain⟨hd,v,hr,hR⟩:=hq;obtain⟨todo,hs⟩:=harr;exact⟨.returned v,w',_,hR,hs,rfl,rfl,hd,rfl,fn,hf,hr⟩
 | panic chain=>
  obtain⟨hd,hR⟩:=hq;obtain⟨todo,hs⟩:=harr;exact⟨.panicked chain,w',_,hR,hs,rfl,rfl,hd,fn,hf⟩
 | exit id=>exact hq.elim
 | goto l=>exact hq.elim
 | outgrown=>exact⟨.outgrown,w',b,hq,harr.resolve_left (by simp[b]),rfl,trivial⟩
end
end Go.Proofs.YthijbipidbjpfaaGreatDoor
namespace Go.Proofs.YthijbipidbjpfaaGreatDoor
open Go.RowKit Go.Maps
def apart(x y:Wr):Prop:=x.1≠y.1∧x.2.1≠y.2.1∧(y.2.2=0∨x.2.2≠y.2.2)
theorem hit_apart{pre:List Wr}{x:Wr}:hit pre x=false ↔ ∀ y ∈ pre,apart y x:=by
 unfold hit apart;rw[List.any_eq_false]
 constructor
 ·intro h y hy
  have:=h y hy;simp only[Bool.or_eq_true,decide_eq_true_eq,Bool.and_eq_true,not_or] at this;refine⟨this.1,this.2.1,?_⟩
  by_cases h0:x.2.2=0
  ·exact .inl h0
  ·exact .inr (fun e=>this.2.2 ⟨h0,e⟩)
 ·intro h y hy
  obtain⟨h1,h2,h3⟩:=h y hy;simp only[Bool.or_eq_true,decide_eq_true_eq,Bool.and_eq_true,not_or];refine⟨h1,h2,fun ⟨a,b⟩ => ?_⟩
  rcases h3 with h3 | h3
  ·exact a h3
  ·exact h3 b
theorem chkG_ok:∀ (l pre:List Wr),(chkG pre l).1=0↔(∀ x ∈ l,okW x=true)∧l.Pairwise apart∧∀ x ∈ l,∀ y ∈ pre,apart y x
 | [],pre=>by simp[chkG]
 | x::l,pre=>by
  rw[chkG]
  by_cases h1:okW x=true
  ·rw[if_pos h1]
   cases h2:hit pre x with
   | true=>
    simp only[if_true]
    constructor
    ·intro h;simp at h
    ·rintro ⟨_,_,h⟩
     have:=hit_apart.2 (h x (by simp));rw[h2] at this;cases this
   | false=>
    simp only[Bool.false_eq_true,if_false];rw[chkG_ok l (pre++[x])];have h3:=hit_apart.1 h2;simp only[List.mem_cons,forall_eq_or_imp,List.pairwise_cons,List.mem_append,List.not_mem_nil,or_false]
    constructor
    ·rintro ⟨a,b,c⟩
     exact⟨⟨h1,a⟩,⟨fun y hy=>c y hy x (.inr rfl),b⟩,h3,fun y hy z hz=>c y hy z (.inl hz)⟩
    ·rintro ⟨⟨_,a⟩,⟨b,b'⟩,_,c⟩
     refine⟨a,b',fun y hy z hz => ?_⟩
     rcases hz with hz | rfl
     ·exact c y hy z hz
     ·exact b y hy
  ·rw[if_neg h1]
   constructor
   ·intro h;simp at h
   ·rintro ⟨h,_⟩
    exact absurd (h x (by simp)) h1
theorem chkG_num:∀ (l pre:List Wr),(chkG pre l).1=0→(chkG pre l).2=0
 | [],pre=>by simp[chkG]
 | x::l,pre=>by
  rw[chkG]
  split
  ·split
   ·simp
   ·exact chkG_num l _
  ·simp
def Valid(l:List Wr):Prop:=l.length≤16∧(∀ x ∈ l,okW x=true)∧l.Pairwise apart
theorem chkS_ok{l:List Wr}:(chkS l).1=0↔Valid l:=by
 unfold chkS Valid
 by_cases h:16<l.length
 ·rw[if_pos h]
  constructor
  ·intro h;simp at h
  ·intro ⟨h',_⟩;omega
 ·rw[if_neg h,chkG_ok]
  simp;omega
theorem chkS_zero{l:List Wr}(h:Valid l):chkS l=(0,0):=by
 have h1:=chkS_ok.2 h;refine Prod.ext h1 ?_;unfold chkS at h1 ⊢;rw[if_neg (by have:=h.1;omega)] at h1 ⊢;exact chkG_num _ _ h1
def addS(l:List Wr)(s f:Int):List Wr × Int:=
 if (chkS l).1≠0 then ([],(chkS l).1) else if (0≤s∧s<256)∧(0≤f∧f<256) then (if hit l (s,f,0) then ([],7) else if 16≤l.length then ([],5) else (l++[(s,f,0)],0)) else ([],2)
def remS(l:List Wr)(s:Int):List Wr × Wr × Int:=
 if (findS l s).2=0 then (l.take (findS l s).1++l.drop ((findS l s).1+1),l.getD (findS l s).1 (0,0,0),0) else ([],(0,0,0),(findS l s).2)
theorem findIdx_at{l:List Wr}{i:Nat}{x:Wr}(hv:l.Pairwise apart)(hx:l[i]? = some x):l.findIdx? (fun z=>decide (z.1=x.1))=some i:=by
 obtain⟨hi,rfl⟩:=List.getElem?_eq_some_iff.1 hx;rw[List.findIdx?_eq_some_iff_getElem];refine⟨hi,by simp,fun j hj => ?_⟩;have:=(List.pairwise_iff_getElem.1 hv) j i (by omega) hi hj;simpa using this.1
theorem okW_slot{x:Wr}(h:okW x=true):0≤x.1∧x.1<256:=by
 unfold okW at h;simp only[Bool.and_eq_true,decide_eq_true_eq] at h;exact h.1
theorem findS_at{l:List Wr}{i:Nat}{x:Wr}(hv:Valid l)(hx:l[i]? = some x):findS l x.1=(i,0):=by
 have hm:x ∈ l:=List.mem_of_getElem? hx;unfold findS;rw[if_neg (by rw[chkS_zero hv];simp),if_pos (okW_slot (hv.2.1 x hm)),findIdx_at hv.2.2 hx]
theorem cut_filter{l:List Wr}{i:Nat}{x:Wr}(hv:l.Pairwise apart)(hx:l[i]? = some x):l.take i++l.drop (i+1)=l.filter (fun z=>decide (z.1≠x.1)):=by
 obtain⟨hi,hy⟩:=List.getElem?_eq_some_iff.1 hx;have e:l.take i++x::l.drop (i+1)=l:=by rw[←hy,←List.drop_eq_getElem_cons hi,List.take_append_drop]
 generalize l.take i=p at e ⊢
 generalize l.drop (i+1)=q at e ⊢
 subst e;rw[List.pairwise_append] at hv;obtain⟨_,h2,h3⟩:=hv;rw[List.pairwise_cons] at h2;rw[List.filter_append,List.filter_cons_of_neg (by simp),List.filter_eq_self.2 (fun z hz => ?_),List.filter_eq_self.2 (fun z hz => ?_)]
 ·have:=(h2.1 z hz).1
  simpa using fun e=>this e.symm
 ·have:=(h3 z hz x (by simp)).1
  simpa using this
theorem remS_at{l:List Wr}{i:Nat}{x:Wr}(hv:Valid l)(hx:l[i]? = some x):remS l x.1=(l.filter (fun z=>decide (z.1≠x.1)),x,0):=by
 unfold remS;rw[findS_at hv hx,if_pos rfl,cut_filter hv.2.2 hx,List.getD_eq_getElem?_getD,hx];rfl
theorem SW.one{w:World}{b:Nat}{t:TypeId}{s f k:Int}(h:Blk w b t #[.int .i64 s,.int .i64 f,.int .i64 k]):SW w (some ⟨b,0,none⟩) [(s,f,k)]:=Sl.of_lit (xs:=[s,f,k]) h
theorem Mine.base{w:World}{base base':Nat}{A:Option Addr}{c:Nat}{l:List Wr}(h:Mine w base A c l)(hb:base'≤base):Mine w base' A c l:=by
 rcases h with h | ⟨hl,h⟩
 ·exact .inl h
 ·refine .inr ⟨hl,?_⟩
  rcases h with h | ⟨g,cap,cur,e,h1,h2⟩
  ·exact .inl h
  ·exact .inr ⟨g,cap,cur,e,Nat.le_trans hb h1,h2⟩
def AddPost2(R:List Wr × Int)(w:World)(e:Ending)(w':World):Prop:=
 ∃ A c,e=.returned (.tuple #[.slice A R.1.length c,.int .i64 R.2])∧CW w' A c R.1∧Below w.heap.size w w'∧Mine w' w.heap.size A c R.1
theorem AddPost2.bad{R:List Wr × Int}{w w':World}{z:Int}(h:R=([],z))(hb:Below w.heap.size w w'):AddPost2 R w (.returned (.tuple #[.slice none 0 0,.int .i64 z])) w':=by
 subst h;exact⟨none,0,rfl,CW.nil,hb,.inl rfl⟩
theorem Add_own(A:Option Addr)(c:Nat)(l:List Wr)(s f:Int)(w:World)(ha:CW w A c l)(la:l.length≤1000) :
  Calls Tryz.prog 112 #[.slice A l.length c,.int .i64 s,.int .i64 f] w (AddPost2 (addS l s f) w):=by
 have HA:=Lib.hid ha;have HS:=Lib.hid ha.1;have hlc:=ha.2;clear ha
 by_cases hz:(chkS l).1=0
 ·have HZ:=Lib.hid hz
  cases d1:decide (0≤s∧s<256) with
  | true=>
   have hs:0≤s∧s<256:=by simpa using d1
   cases d2:decide (0≤f∧f<256) with
   | true=>
    have hf:0≤f∧f<256:=by simpa using d2
    cases hh:hit l (s,f,0) with
    | true=>
     have hcl:clashM (mapOf l) s f 0=true:=(clash_hit l (s,f,0)).trans hh;have hF:Hid (addS l s f=([],7)):=by show _=_;unfold addS;rw[if_neg (by simp[hz]),if_pos ⟨hs,hf⟩,if_pos hh]
     clear hs hf hz hh
     go_enter Tryz.func112,Tryz.ntmps112
     go_wp2_with (first | (go_at_call 161;with_reducible refine (isSlot_b _ _ d1 _).mono ?_;rintro e w' ⟨rfl,rfl⟩) | (go_at_call 162;with_reducible refine (isFrame_b _ _ d2 _).mono ?_;rintro e w' ⟨rfl,rfl⟩) | (go_at_call 120;with_reducible refine (read_good _ _ _ _ HS.out la HZ.out).mono ?_;rintro e w1 ⟨B,rfl,hB,hm,hb1⟩) | (go_at_call 163;with_reducible refine (add_c _ (mapOf l) _ _ _ _ _ ?_).mono ?_;(exact hm.below_ (C:=w1.heap.size) zbl hm.lt);(try unfold addIf);rw[hcl];rintro e w2 ⟨rfl,hm1,hg1⟩))
     refine bodyPost_ret (by simp[results,Tryz.results112,go_sem] <;> rfl) rfl ?_;exact AddPost2.bad hF.out (below_grown zbl hg1 hB)
    | false=>
     have hcl:clashM (mapOf l) s f 0=false:=(clash_hit l (s,f,0)).trans hh
     by_cases h16:16≤l.length
     ·have h16':(16:Int)≤l.length:=by omega
      have hF:Hid (addS l s f=([],5)):=by show _=_;unfold addS;rw[if_neg (by simp[hz]),if_pos ⟨hs,hf⟩,if_neg (by simp[hh]),if_pos h16]
      clear hs hf hz hh
      go_enter Tryz.func112,Tryz.ntmps112
      go_wp2_with (first | (go_at_call 161;with_reducible refine (isSlot_b _ _ d1 _).mono ?_;rintro e w' ⟨rfl,rfl⟩) | (go_at_call 162;with_reducible refine (isFrame_b _ _ d2 _).mono ?_;rintro e w' ⟨rfl,rfl⟩) | (go_at_call 120;with_reducible refine (read_good _ _ _ _ HS.out la HZ.out).mono ?_;rintro e w1 ⟨B,rfl,hB,hm,hb1⟩) | (go_at_call 163;with_reducible refine (add_c _ (mapOf l) _ _ _ _ _ ?_).mono ?_;(exact hm.below_ (C:=w1.heap.size) zbl hm.lt);(try unfold addIf);rw[hcl];rintro e w2 ⟨rfl,hm1,hg1⟩))
      refine bodyPost_ret (by simp[results,Tryz.results112,go_sem] <;> rfl) rfl ?_;exact AddPost2.bad hF.out (below_grown zbl hg1 hB)
     ·have h16':(l.length:Int)<16:=by omega
      have hF:Hid (addS l s f=(l++[(s,f,0)],0)):=by show _=_;unfold addS;rw[if_neg (by simp[hz]),if_pos ⟨hs,hf⟩,if_neg (by simp[hh]),if_neg h16]
      have hfull:=run_full A c l.length l.length (by omega) (by omega);rw[show ((l.length:Int).toNat)=l.length by omega] at hfull;clear hs hf hz hh
      go_enter Tryz.func112,Tryz.ntmps112
      go_wp2_with (first | (go_at_call 161;with_reducible refine (isSlot_b _ _ d1 _).mono ?_;rintro e w' ⟨rfl,rfl⟩) | (go_at_call 162;with_reducible refine (isFrame_b _ _ d2 _).mono ?_;rintro e w' ⟨rfl,rfl⟩) | (go_at_call 120;with_reducible refine (read_good _ _ _ _ HS.out la HZ.out).mono ?_;rintro e w1 ⟨B,rfl,hB,hm,hb1⟩))
      with_reducible refine (add_c _ (mapOf l) _ _ _ _ _ ?_).mono ?_
      ·exact hm.below_ (C:=w1.heap.size) zbl hm.lt
      (try unfold addIf);rw[hcl];rintro e w2 ⟨rfl,hm1,hg1⟩;have hml:=hm.lt;have kb:Blk w2 w1.heap.size 106 #[.int .i64 s,.int .i64 f,.int .i64 0]:=(hg1.block _ (by simp) (by simp;omega)).trans (Blk.new_ rfl rfl);have k0:=kb.cell_ 0;have k1:=kb.cell_ 1;have k2:=kb.cell_ 2;simp at k0 k1 k2;have hbw:Below w.heap.size w w2:=below_grown zbl hg1 hB;go_wp2_with fail
      go_region_held3 (fun W=>W.cell? ⟨w1.heap.size,0,none⟩=some (.int .i64 s)∧W.cell? ⟨w1.heap.size,1,none⟩=some (.int .i64 f)∧W.cell? ⟨w1.heap.size,2,none⟩=some (.int .i64 0))
       (refine⟨?_,?_,?_⟩ <;> (refine cell_keep (B:=w2.heap.size) (a:=w2) zbl (by assumption) (by have:=kb.lt;simpa using this)))
       (first | (refine step_appW rfl (.tmp 46) (.tmp 48) rfl _ w2.heap.size ?_ A l.length l.length l rfl (.inl ⟨rfl,HS.out.ext ?_⟩) _ 1 1 [(s,f,0)] rfl (SW.one (t:=106) ?_) (by simp;omega) rfl rfl ?_;(simp[World.drew]);(exact zbl);(exact zbk);intro A' c' w3 hc3 hb3 hm3))
      all_goals
       go_wp2_with fail
       refine bodyPost_ret (by simp[results,Tryz.results112,go_sem] <;> rfl) rfl ?_
       unfold AddPost2
       rw[hF.out]
       exact⟨A',c',by simp,hc3.cw,hbw.trans (Below.mono (Below.trans ((Below.refl _ _).alloc (Nat.le_refl _) _).drew hb3) hbw.size),(hm3 (.inl (by simp))).base hbw.size⟩
   | false=>
    have hf:¬(0≤f∧f<256):=by simpa using d2
    have hF:Hid (addS l s f=([],2)):=by show _=_;unfold addS;rw[if_neg (by simp[hz]),if_neg (fun h=>hf h.2)]
    clear hs hf hz
    go_enter Tryz.func112,Tryz.ntmps112
    go_wp2_with (first | (go_at_call 161;with_reducible refine (isSlot_b _ _ d1 _).mono ?_;rintro e w' ⟨rfl,rfl⟩) | (go_at_call 162;with_reducible refine (isFrame_b _ _ d2 _).mono ?_;rintro e w' ⟨rfl,rfl⟩) | (go_at_call 120;with_reducible refine (read_good _ _ _ _ HS.out la HZ.out).mono ?_;rintro e w1 ⟨B,rfl,hB,hm,hb1⟩))
    refine bodyPost_ret (by simp[results,Tryz.results112,go_sem] <;> rfl) rfl ?_;exact AddPost2.bad hF.out zbl
  | false=>
   have hs:¬(0≤s∧s<256):=by simpa using d1
   have hF:Hid (addS l s f=([],2)):=by show _=_;unfold addS;rw[if_neg (by simp[hz]),if_neg (fun h=>hs h.1)]
   clear hs hz
   go_enter Tryz.func112,Tryz.ntmps112
   go_wp2_with (first | (go_at_call 161;with_reducible refine (isSlot_b _ _ d1 _).mono ?_;rintro e w' ⟨rfl,rfl⟩) | (go_at_call 120;with_reducible refine (read_good _ _ _ _ HS.out la HZ.out).mono ?_;rintro e w1 ⟨B,rfl,hB,hm,hb1⟩))
   refine bodyPost_ret (by simp[results,Tryz.results112,go_sem] <;> rfl) rfl ?_;exact AddPost2.bad hF.out zbl
 ·obtain⟨⟨z,k⟩,hk⟩:∃ r,chkS l=r:=⟨_,rfl⟩
  rw[hk] at hz;have hF:Hid (addS l s f=([],z)):=by show _=_;unfold addS;rw[hk,if_pos hz]
  have hzb:(z != 0)=true:=by simpa using hz
  have HK:=Lib.hid hk;have HN:=Lib.hid hz;clear hk
  go_enter Tryz.func112,Tryz.ntmps112
  go_wp2_with (first | (go_at_call 120;with_reducible refine (read_bad _ _ _ _ HS.out la HK.out HN.out).mono ?_;rintro e w1 ⟨rfl,hb1⟩))
  refine bodyPost_ret (by simp[results,Tryz.results112,go_sem] <;> rfl) rfl ?_;exact AddPost2.bad hF.out zbl
def RemPost2(R:List Wr × Wr × Int)(w:World)(e:Ending)(w':World):Prop:=
 ∃ A c,e=.returned (.tuple #[.slice A R.1.length c,.agg #[.int .i64 R.2.1.1,.int .i64 R.2.1.2.1,.int .i64 R.2.1.2.2],.int .i64 R.2.2])∧CW w' A c R.1∧Below w.heap.size w w'∧Mine w' w.heap.size A c R.1
theorem findS_lt{l:List Wr}{s:Int}{i:Nat}(h:findS l s=(i,0)):i<l.length:=by
 unfold findS at h
 by_cases h0:(chkS l).1≠0
 ·rw[if_pos h0] at h
  injection h with _ h
  exact absurd h h0
 ·rw[if_neg h0] at h
  by_cases hs:0≤s∧s<256
  ·rw[if_pos hs] at h
   cases hf:l.findIdx? (fun x=>decide (x.1=s)) with
   | none=>rw[hf] at h;simp at h
   | some k=>
    rw[hf] at h;simp at h;subst h;exact(List.findIdx?_eq_some_iff_getElem.1 hf).1
  ·rw[if_neg hs] at h
   simp at h
theorem find_bad(A:Option Addr)(c:Nat)(l:List Wr)(s:Int)(w:World)(ha:SW w A l)(la:l.length≤1000){z:Int}(hz:(findS l s).2=z)(hn:z≠0) :
  Calls Tryz.prog 152 #[.slice A l.length c,.int .i64 s] w fun e w'=>e=.returned (.tuple #[.map none,.int .i64 0,.int .i64 z])∧Below w.heap.size w w':=
 (find_any A c l s w ha la).mono fun e w' ⟨hb,h⟩=>by
  rcases h with ⟨h0,he⟩ | ⟨h0,_⟩
  ·rw[hz] at he;exact⟨he,hb⟩
  ·rw[hz] at h0;exact absurd h0 hn
theorem find_good(A:Option Addr)(c:Nat)(l:List Wr)(s:Int)(w:World)(ha:SW w A l)(la:l.length≤1000){i:Nat}(hz:findS l s=(i,0)) :
  Calls Tryz.prog 152 #[.slice A l.length c,.int .i64 s] w fun e w'=>∃ B,e=.returned (.tuple #[.map (some B),.int .i64 i,.int .i64 0])∧w.heap.size≤B∧MapK w' B (mapOf l)∧Below w.heap.size w w':=
 (find_any A c l s w ha la).mono fun e w' ⟨hb,h⟩=>by
  rcases h with ⟨h0,he⟩ | ⟨h0,B,hB,he,hm⟩
  ·rw[hz] at h0;exact absurd rfl h0
  ·rw[hz] at he;exact⟨B,he,hB,hm,hb⟩
theorem cells3{w:World}{B:Nat}{u0 u1 u2:Value}(q0:w.cell? ⟨B,0,none⟩=some u0)(q1:w.cell? ⟨B,1,none⟩=some u1)(q2:w.cell? ⟨B,2,none⟩=some u2)(s1 s2 s3:Value) :
  (((w.setCell ⟨B,0,none⟩ s1).setCell ⟨B,1,none⟩ s2).setCell ⟨B,2,none⟩ s3).cell? ⟨B,0,none⟩=some s1∧(((w.setCell ⟨B,0,none⟩ s1).setCell ⟨B,1,none⟩ s2).setCell ⟨B,2,none⟩ s3).cell? ⟨B,1,none⟩=some s2 ∧
  (((w.setCell ⟨B,0,none⟩ s1).setCell ⟨B,1,none⟩ s2).setCell ⟨B,2,none⟩ s3).cell? ⟨B,2,none⟩=some s3:=by
 simp[go_sem,q0,q1,q2]
theorem Mine.sw{w:World}{base:Nat}{A:Option Addr}{c:Nat}{l:List Wr}(h:Mine w base A c l):SW w A l:=by
 rcases h with rfl | h
 ·exact SW.nil
 ·exact h.sw.2
theorem Mine.ext{w w':World}{base:Nat}{A:Option Addr}{c:Nat}{l:List Wr}(h:Mine w base A c l)(hb:Below w.heap.size w w'):Mine w' base A c l:=by
 rcases h with h | ⟨hl,h⟩
 ·exact .inl h
 ·refine .inr ⟨hl,?_⟩
  rcases h with h | ⟨g,cap,cur,e,h1,h2,h3⟩
  ·exact .inl h
  ·exact .inr ⟨g,cap,cur,e,h1,(hb.block g (Array.getElem?_eq_some_iff.1 h2).1).trans h2,h3⟩
theorem held4{B:Nat}{w1 W:World}{b o:Nat}{u0 u1 u2:Value}(h:Below B w1 W)(h0:w1.cell? ⟨b,o,none⟩=some u0)(h1:w1.cell? ⟨b,o+1,none⟩=some u1)(h2:w1.cell? ⟨b,o+2,none⟩=some u2)(hb:b<B) :
  Below B w1 W∧W.cell? ⟨b,o,none⟩=some u0∧W.cell? ⟨b,o+1,none⟩=some u1∧W.cell? ⟨b,o+2,none⟩=some u2:=
 ⟨h,cell_keep h h0 hb,cell_keep h h1 hb,cell_keep h h2 hb⟩
theorem Remove_own(A:Option Addr)(c:Nat)(l:List Wr)(s:Int)(w:World)(ha:CW w A c l)(la:l.length≤1000) :
  Calls Tryz.prog 178 #[.slice A l.length c,.int .i64 s] w (RemPost2 (remS l s) w):=by
 have HA:=Lib.hid ha;have HS:=Lib.hid ha.1;have hlc:=ha.2;clear ha;obtain⟨⟨i,z⟩,hf⟩:∃ r,findS l s=r:=⟨_,rfl⟩
 by_cases hz:z=0
 ·subst hz
  have hi:=findS_lt hf;obtain⟨b,off,x,rfl,hb,hx,hc0,hc1,hc2⟩:=HS.out.at_ hi
  have hF:Hid (remS l s=(l.take i++l.drop (i+1),x,0)):=by
   show _=_;unfold remS;rw[hf,if_pos rfl,List.getD_eq_getElem?_getD,hx];rfl
  have h0:=run_full (some ⟨b,off,none⟩) c l.length 0 (by omega) (by omega);have h1:=run_pre (some ⟨b,off,none⟩) c l.length i (by omega) (by omega);have h2:=run_suf (some ⟨b,off,none⟩) c l.length ((i:Int)+1) (by omega) (by omega);have e1:((i:Int)).toNat=i:=by omega
  have e2:((i:Int)+1).toNat=i+1:=by omega
  rw[e1] at h1;rw[e2] at h2;have i1:(i:Int)<l.length:=by omega
  have i2:(i:Int)≤1000:=by omega
  have hwr:IntKind.i64.wrap ((i:Int)+1)=(i:Int)+1:=IntWalk.i64_in _ (by omega);have H1:=Lib.hid (HS.out.take i);have H2:=Lib.hid (HA.out.suf (i+1) (by omega));obtain⟨A2,hA2⟩:∃ A2,(if c=i+1 then some ⟨b,off,none⟩ else (some (⟨b,off,none⟩:Addr)).map (fun a=>a.add ((i+1)*3)))=A2:=⟨_,rfl⟩;rw[hA2] at h2 H2;have HF:=Lib.hid hf;have HX:=Lib.hid hx;have hlen:(l.take i).length=i:=by simp;omega
  clear hf hx hA2
  go_enter Tryz.func178,Tryz.ntmps178
  go_wp2_with fail;refine (find_good _ _ _ _ _ (HS.out.ext zbl) la HF.out).mono ?_;rintro e w1 ⟨B,rfl,hB,hm,hb1⟩;have kb:Blk w1 w.heap.size 106 #[.int .i64 0,.int .i64 0,.int .i64 0]:=Blk.below_ (Blk.new_ rfl rfl) hb1 (by simp);have k0:=kb.cell_ 0;have k1:=kb.cell_ 1;have k2:=kb.cell_ 2;obtain⟨f0,f1,f2,-⟩:=zf kb;have kl:=kb.lt;simp at k0 k1 k2;have hbw:Below w.heap.size w w1:=zbl;have hd0:w1.cell? ⟨b,off+i*3,none⟩=some (.int .i64 x.1):=cell_keep hbw hc0 hb;have hd1:w1.cell? ⟨b,off+i*3+1,none⟩=some (.int .i64 x.2.1):=cell_keep hbw hc1 hb;have hd2:w1.cell? ⟨b,off+i*3+2,none⟩=some (.int .i64 x.2.2):=cell_keep hbw hc2 hb;go_wp2_with fail
  go_region_held3 (fun _=>True) (trivial)
   (first | (refine step_appW rfl (.tmp 23) (.tmp 26) rfl _ w1.heap.size ?_ (some ⟨b,off,none⟩) 0 0 [] rfl (.inl ⟨rfl,SW.nil⟩) (some ⟨b,off,none⟩) c i (l.take i) hlen.symm (H1.out.ext ?_) (by simp;omega) rfl rfl ?_;(exact Nat.le_refl _);(exact hbw.trans (Below.mono zbl hbw.size));intro A' c' w3 hc3 hb3 hm3))
  all_goals
   rw[List.nil_append] at hc3 hm3
   have hM3:=hm3 (.inr (.inl rfl))
   clear hm3
   have hb3':Below w1.heap.size w1 w3:=zbl
   go_wp2_with fail
   go_region_held3 (fun W=>Below w.heap.size w W∧W.cell? ⟨b,off+i*3,none⟩=some (.int .i64 x.1)∧W.cell? ⟨b,off+i*3+1,none⟩=some (.int .i64 x.2.1)∧W.cell? ⟨b,off+i*3+2,none⟩=some (.int .i64 x.2.2))
    (exact held4 (zbl) hc0 hc1 hc2 hb)
    (first | (refine step_appW rfl (.tmp 28) (.tmp 32) rfl _ w1.heap.size ?_ A' c' i (l.take i) hlen.symm (hc3.ext ?_) A2 (c - (i+1)) (l.length - (i+1)) (l.drop (i+1)) (by simp) (H2.out.1.ext ?_) (by simp;omega) rfl rfl ?_;(exact hb3'.size);(exact zbl);(exact hbw.trans (Below.mono zbl hbw.size));intro A4 c4 w4 hc4 hb4 hm4;have hb4':Below w1.heap.size w1 w4:=zbl;have g0:w4.cell? ⟨w.heap.size,0,none⟩=some (.int .i64 0):=cell_keep hb4' k0 kl;have g1:w4.cell? ⟨w.heap.size,1,none⟩=some (.int .i64 0):=cell_keep hb4' k1 kl;have g2:w4.cell? ⟨w.heap.size,2,none⟩=some (.int .i64 0):=cell_keep hb4' k2 kl;have g3:w4.frozen? ⟨w.heap.size,0,none⟩=false:=frozen_keep hb4' f0 kl;have g4:w4.frozen? ⟨w.heap.size,1,none⟩=false:=frozen_keep hb4' f1 kl;have g5:w4.frozen? ⟨w.heap.size,2,none⟩=false:=frozen_keep hb4' f2 kl))
   all_goals
    obtain⟨r0,r1,r2⟩:=cells3 g0 g1 g2 (.int .i64 x.1) (.int .i64 x.2.1) (.int .i64 x.2.2)
    have hM4:=hm4 (.inr (hM3.ext zbl))
    have hcap:=hc4.cw.2
    have hmine:=((((hM4.far 0 (.int .i64 x.1) kl).far 1 (.int .i64 x.2.1) kl).far 2 (.int .i64 x.2.2) kl)).base hbw.size
    have hsw:=hmine.sw
    have hlast:Below w.heap.size w (((w4.setCell ⟨w.heap.size,0,none⟩ (.int .i64 x.1)).setCell ⟨w.heap.size,1,none⟩ (.int .i64 x.2.1)).setCell ⟨w.heap.size,2,none⟩ (.int .i64 x.2.2)):=zbl
    have HH:=Lib.hid (And.intro hsw (And.intro hcap hlast))
    have HM:=Lib.hid hmine
    clear hsw hcap hlast hM4 hm4 hmine
    go_wp2_with fail
    refine bodyPost_ret (by simp[results,Tryz.results178,go_sem,r0,r1,r2] <;> rfl) rfl ?_
    unfold RemPost2
    rw[hF.out]
    exact⟨A4,c4,by simp[hlen],⟨HH.out.1,HH.out.2.1⟩,HH.out.2.2,HM.out⟩
 ·have hF:Hid (remS l s=([],(0,0,0),z)):=by show _=_;unfold remS;rw[hf,if_neg hz]
  have hzb:(z != 0)=true:=by simpa using hz
  have HK:Hid ((findS l s).2=z):=by show _=_;rw[hf]
  have HN:=Lib.hid hz;clear hf
  go_enter Tryz.func178,Tryz.ntmps178
  go_wp2_with fail;refine (find_bad _ _ _ _ _ (HS.out.ext zbl) la HK.out HN.out).mono ?_;rintro e w1 ⟨rfl,hb1⟩;have kb:Blk w1 w.heap.size 106 #[.int .i64 0,.int .i64 0,.int .i64 0]:=Blk.below_ (Blk.new_ rfl rfl) hb1 (by simp);have k0:=kb.cell_ 0;have k1:=kb.cell_ 1;have k2:=kb.cell_ 2;obtain⟨f0,f1,f2,-⟩:=zf kb;have kl:=kb.lt;simp at k0 k1 k2;have hbw:Below w.heap.size w w1:=zbl;go_wp2_with fail;refine bodyPost_ret (by simp[results,Tryz.results178,go_sem,k0,k1,k2] <;> rfl) rfl ?_;unfold RemPost2;rw[hF.out];exact⟨none,0,rfl,CW.nil,zbl,.inl rfl⟩
theorem flat_set(p:Int):∀ (l:List Wr) (i:Nat) (x:Wr),l[i]? = some x→flat (l.set i (x.1,x.2.1,p))=(flat l).set (i*3+2) p
 | [],_,_,h=>by simp at h
 | y::l,0,x,h=>by
  simp only[List.getElem?_cons_zero,Option.some.injEq] at h;subst h;simp[flat]
 | y::l,i+1,x,h=>by
  have e:∀ l:List Wr,flat (y::l)=y.1::y.2.1::y.2.2::flat l:=fun _=>rfl
  rw[List.set_cons_succ,e,e,flat_set p l i x (by simpa using h),show (i+1)*3+2=i*3+2+1+1+1 by omega];simp
theorem OwnW.put{w:World}{base c:Nat}{A:Option Addr}{l:List Wr}{i:Nat}{x:Wr}(h:OwnW w base (.slice A l.length c) l)(hx:l[i]? = some x) :
  ∃ g,A=some ⟨g,0,none⟩∧base≤g∧w.cell? ⟨g,i*3+2,none⟩=some (.int .i64 x.2.2)∧w.frozen? ⟨g,i*3+2,none⟩=false∧∀ p,SW (w.setCell ⟨g,i*3+2,none⟩ (.int .i64 p)) A (l.set i (x.1,x.2.1,p)):=by
 have hi:=(List.getElem?_eq_some_iff.1 hx).1;have hsw:=h.sw.2;obtain⟨hl,⟨e,hn⟩ | ⟨g,cap,cur,e,hg,hb,h3⟩⟩:=h
 ·rw[hn] at hi;omega
 ·injection e with e1 e2 e3
  subst e1;have hB:Blk w g 106 cur:=hb;obtain⟨b,off,e',hb',hc⟩:=hsw (by rw[flat_length];omega);injection e' with e'
  injection e' with e1 e2
  subst e1 e2;have hat:=hc (i*3+2) _ (flat_at hx).2.2;rw[Nat.zero_add] at hat;refine⟨g,rfl,hg,hat,hB.frozen_ _,fun p hp=>⟨g,0,rfl,by simpa [World.setCell] using hb',fun j y hy => ?_⟩⟩;rw[flat_set p l i x hx,List.getElem?_set] at hy;rw[Nat.zero_add]
  by_cases hj:i*3+2=j
  ·subst hj
   rw[if_pos rfl] at hy;have hlt:i*3+2<(flat l).length:=by rw[flat_length];omega
   rw[if_pos hlt] at hy;injection hy with hy
   subst hy;simp[go_sem,hat]
  ·rw[if_neg hj] at hy
   rw[World.cell?_setCell_other _ _ _ _ (by intro e;injection e with e1 e2;omega)];have:=hc j y hy;rw[Nat.zero_add] at this;exact this
theorem OwnW.putO{w:World}{base c:Nat}{A:Option Addr}{l:List Wr}{i:Nat}{x:Wr}(h:OwnW w base (.slice A l.length c) l)(hx:l[i]? = some x) :
  ∃ g,A=some ⟨g,0,none⟩∧base≤g∧w.cell? ⟨g,i*3+2,none⟩=some (.int .i64 x.2.2)∧w.frozen? ⟨g,i*3+2,none⟩=false∧(∀ p,SW (w.setCell ⟨g,i*3+2,none⟩ (.int .i64 p)) A (l.set i (x.1,x.2.1,p))) ∧
   ∀ p,OwnW (w.setCell ⟨g,i*3+2,none⟩ (.int .i64 p)) base (.slice A (l.set i (x.1,x.2.1,p)).length c) (l.set i (x.1,x.2.1,p)):=by
 obtain⟨g,rfl,hg,q0,q1,q2⟩:=h.put hx;refine⟨g,rfl,hg,q0,q1,q2,fun p => ?_⟩;obtain⟨hl,⟨e,hn⟩ | ⟨g',cap,cur,e,_,hb,h1,h2,h3,h4⟩⟩:=h
 ·cases e
 ·injection e with e e2 e3
  injection e with e
  injection e with e
  subst e e3;have hB:Blk w g 106 cur:=hb;unfold OwnW;rw[List.length_set];refine⟨by rw[cellsW_length,List.length_set],.inr ⟨g,_,cur.setIfInBounds (i*3+2) (.int .i64 p),rfl,hg,hB.set_ _ _,h1,h2,by simpa using h3,?_⟩⟩;rw[Array.toList_setIfInBounds,List.take_set,h4];unfold cellsW;rw[flat_set p l i x hx,List.map_set]
def ClonePost(l:List Wr)(w:World)(e:Ending)(w':World):Prop:=∃ A c,e=.returned (.slice A l.length c)∧Mine w' w.heap.size A c l∧l.length≤c∧Below w.heap.size w w'
theorem CloneW_any(A:Option Addr)(c:Nat)(l:List Wr)(w:World)(ha:SW w A l)(la:l.length≤1000) :
  Calls Tryz.prog 106 #[.slice A l.length c] w (ClonePost l w):=by
 have he:=fun (W:World) a n c n' c'=>Lib.run_eql_slice_nil (P:=Tryz.prog) W 26 106 a n c n' c' Tryz.underlying26
 cases A with
 | none=>
  obtain rfl:l=[]:=by
   cases l with
   | nil=>rfl
   | cons a t=>obtain⟨b,off,e,_⟩:=ha (by rw[flat_length];simp);cases e
  go_enter Tryz.func106,Tryz.ntmps106
  go_wp2
  go_ret;exact⟨none,0,rfl,.inl rfl,by simp,Below.refl _ _⟩
 | some ad=>
  have HA:=Lib.hid ha;clear ha
  go_enter Tryz.func106,Tryz.ntmps106
  go_wp2_with (at_builtin;refine wpList_appW rfl (.tmp 5) (.tmp 6) rfl _ w.heap.size (by simp) (some ⟨w.heap.size,0,none⟩) 0 0 [] rfl (.inl ⟨rfl,SW.nil⟩) (some ad) c l.length l rfl (HA.out.ext zbl) (by simp;omega) rfl rfl ?_;intro A' c' w1 hc1 hb1 hm1)
  go_ret;exact⟨A',c',rfl,hm1 (.inr (.inl rfl)),hc1.cw.2,zbl⟩
def claS(l:List Wr)(s p:Int):List Wr × Int:=
 if (findS l s).2≠0∧(findS l s).2≠6 then ([],(findS l s).2) else if 1≤p∧p≤8 then (if (findS l s).2≠0 then ([],6) else
  if (l.getD (findS l s).1 (0,0,0)).2.2≠0 then ([],9) else if (l.findIdx? (fun x=>decide (x.2.2=p))).isSome then ([],7) else
   (l.set (findS l s).1 ((l.getD (findS l s).1 (0,0,0)).1,(l.getD (findS l s).1 (0,0,0)).2.1,p),0)) else ([],2)
theorem Claim_own(A:Option Addr)(c:Nat)(l:List Wr)(s p:Int)(w:World)(ha:SW w A l)(la:l.length≤1000) :
  Calls Tryz.prog 95 #[.slice A l.length c,.int .i64 s,.int .i64 p] w (AddPost2 (claS l s p) w):=by
 have HS:=Lib.hid ha;clear ha;obtain⟨⟨i,z⟩,hf⟩:∃ r,findS l s=r:=⟨_,rfl⟩
 by_cases hz:z=0
 ·subst hz
  have HF:=Lib.hid hf
  cases d1:decide (1≤p∧p≤8) with
  | true=>
   have hp:1≤p∧p≤8:=by simpa using d1
   have hi:=findS_lt hf;obtain⟨b,off,x,rfl,hb,hx,hc0,hc1,hc2⟩:=HS.out.at_ hi;have hgd:l.getD i (0,0,0)=x:=by rw[List.getD_eq_getElem?_getD,hx];rfl
   have i1:(i:Int)<l.length:=by omega
   have hbs:∀ W:World,Below w.heap.size w W→W.cell? ⟨b,off+i*3+2,none⟩=some (.int .i64 x.2.2):=fun W hW=>cell_keep hW hc2 hb
   by_cases hx2:x.2.2=0
   ·rw[hx2] at hbs
    cases hq:l.findIdx? (fun x=>decide (x.2.2=p)) with
    | none=>
     have hF:Hid (claS l s p=(l.set i (x.1,x.2.1,p),0)):=by
      show _=_;unfold claS;rw[hf,if_neg (by simp),if_pos hp,if_neg (by simp),hgd,if_neg (by simp[hx2]),hq];rfl
     have hL:Hid ((mapOf l).lookup (3,p)=none):=by show _=_;rw[look_claim (by omega),hq];rfl
     have HX:=Lib.hid hx;clear hf hp hq hgd hx hc0 hc1 hc2
     go_enter Tryz.func95,Tryz.ntmps95
     go_wp2_with (first | (go_at_call 153;with_reducible refine (isProc_b _ _ d1 _).mono ?_;rintro e w' ⟨rfl,rfl⟩) | (go_at_call 152;with_reducible refine (find_good _ _ _ _ _ HS.out la HF.out).mono ?_;rintro e w1 ⟨B,rfl,hB,hm,hb1⟩;have hlk:=rlook hm 3 p hL.out;simp only[okOf] at hlk;have hc2:=hbs w1 hb1))
     refine (CloneW_any _ _ _ _ (HS.out.ext hb1) la).mono ?_;rintro e w2 ⟨A2,c2,rfl,hM2,hcap,hb2⟩;have hM3:OwnW w2 w1.heap.size (.slice A2 l.length c2) l:=Or.resolve_left hM2 (fun e=>by rw[e] at hi;simp at hi);obtain⟨g,rfl,hg,q0,q1,q2,HMO⟩:=hM3.putO HX.out;have Q2:=Lib.hid (q2 p);have hmo:=HMO;clear q2 hM2 hM3;go_wp2_with fail;refine bodyPost_ret (by simp[results,Tryz.results95,go_sem] <;> rfl) rfl ?_;unfold AddPost2;rw[hF.out];exact⟨_,c2,by simp,⟨Q2.out,by simpa using hcap⟩,(hb1.trans (hb2.mono hb1.size)).setCell (show w.heap.size≤g from Nat.le_trans hb1.size hg) _,Mine.base (.inr (hmo p)) hb1.size⟩
    | some k=>
     have hF:Hid (claS l s p=([],7)):=by
      show _=_;unfold claS;rw[hf,if_neg (by simp),if_pos hp,if_neg (by simp),hgd,if_neg (by simp[hx2]),hq];rfl
     have hL:Hid ((mapOf l).lookup (3,p)=some (k:Int)):=by show _=_;rw[look_claim (by omega),hq];rfl
     clear hf hp hq hgd hx hc0 hc1 hc2
     go_enter Tryz.func95,Tryz.ntmps95
     go_wp2_with (first | (go_at_call 153;with_reducible refine (isProc_b _ _ d1 _).mono ?_;rintro e w' ⟨rfl,rfl⟩) | (go_at_call 152;with_reducible refine (find_good _ _ _ _ _ HS.out la HF.out).mono ?_;rintro e w1 ⟨B,rfl,hB,hm,hb1⟩;have hlk:=rlook hm 3 p hL.out;simp only[okOf] at hlk;have hc2:=hbs w1 hb1))
     refine bodyPost_ret (by simp[results,Tryz.results95,go_sem] <;> rfl) rfl ?_;exact AddPost2.bad hF.out zbl
   ·have hF:Hid (claS l s p=([],9)):=by
     show _=_;unfold claS;rw[hf,if_neg (by simp),if_pos hp,if_neg (by simp),hgd,if_pos hx2]
    have hxb:(x.2.2 != 0)=true:=by simpa using hx2
    clear hf hp hgd hx hc0 hc1 hc2
    go_enter Tryz.func95,Tryz.ntmps95
    go_wp2_with (first | (go_at_call 153;with_reducible refine (isProc_b _ _ d1 _).mono ?_;rintro e w' ⟨rfl,rfl⟩) | (go_at_call 152;with_reducible refine (find_good _ _ _ _ _ HS.out la HF.out).mono ?_;rintro e w1 ⟨B,rfl,hB,hm,hb1⟩;have hc2:=hbs w1 hb1))
    refine bodyPost_ret (by simp[results,Tryz.results95,go_sem] <;> rfl) rfl ?_;exact AddPost2.bad hF.out zbl
  | false=>
   have hp:¬(1≤p∧p≤8):=by simpa using d1
   have hF:Hid (claS l s p=([],2)):=by show _=_;unfold claS;rw[hf,if_neg (by simp),if_neg hp]
   clear hf hp
   go_enter Tryz.func95,Tryz.ntmps95
   go_wp2_with (first | (go_at_call 153;with_reducible refine (isProc_b _ _ d1 _).mono ?_;rintro e w' ⟨rfl,rfl⟩) | (go_at_call 152;with_reducible refine (find_good _ _ _ _ _ HS.out la HF.out).mono ?_;rintro e w1 ⟨B,rfl,hB,hm,hb1⟩))
   refine bodyPost_ret (by simp[results,Tryz.results95,go_sem] <;> rfl) rfl ?_;exact AddPost2.bad hF.out zbl
 ·have HK:Hid ((findS l s).2=z):=by show _=_;rw[hf]
  have HN:=Lib.hid hz;have hzb:(z != 0)=true:=by simpa using hz
  by_cases h6:z=6
  ·subst h6
   cases d1:decide (1≤p∧p≤8) with
   | true=>
    have hp:1≤p∧p≤8:=by simpa using d1
    have hF:Hid (claS l s p=([],6)):=by show _=_;unfold claS;rw[hf,if_neg (by simp),if_pos hp,if_pos (by simp)]
    clear hf hp hz hzb
    go_enter Tryz.func95,Tryz.ntmps95
    go_wp2_with (first | (go_at_call 153;with_reducible refine (isProc_b _ _ d1 _).mono ?_;rintro e w' ⟨rfl,rfl⟩) | (go_at_call 152;with_reducible refine (find_bad _ _ _ _ _ HS.out la HK.out HN.out).mono ?_;rintro e w1 ⟨rfl,hb1⟩))
    refine bodyPost_ret (by simp[results,Tryz.results95,go_sem] <;> rfl) rfl ?_;exact AddPost2.bad hF.out zbl
   | false=>
    have hp:¬(1≤p∧p≤8):=by simpa using d1
    have hF:Hid (claS l s p=([],2)):=by show _=_;unfold claS;rw[hf,if_neg (by simp),if_neg hp]
    clear hf hp hz hzb
    go_enter Tryz.func95,Tryz.ntmps95
    go_wp2_with (first | (go_at_call 153;with_reducible refine (isProc_b _ _ d1 _).mono ?_;rintro e w' ⟨rfl,rfl⟩) | (go_at_call 152;with_reducible refine (find_bad _ _ _ _ _ HS.out la HK.out HN.out).mono ?_;rintro e w1 ⟨rfl,hb1⟩))
    refine bodyPost_ret (by simp[results,Tryz.results95,go_sem] <;> rfl) rfl ?_;exact AddPost2.bad hF.out zbl
  ·have hF:Hid (claS l s p=([],z)):=by show _=_;unfold claS;rw[hf,if_pos ⟨hz,h6⟩]
   have hzc:(z != 6)=true:=by simpa using h6
   clear hf hz h6
   go_enter Tryz.func95,Tryz.ntmps95
   go_wp2_with (first | (go_at_call 152;with_reducible refine (find_bad _ _ _ _ _ HS.out la HK.out HN.out).mono ?_;rintro e w1 ⟨rfl,hb1⟩))
   refine bodyPost_ret (by simp[results,Tryz.results95,go_sem] <;> rfl) rfl ?_;exact AddPost2.bad hF.out zbl
theorem box3{w w1:World}{B:Nat}(hB:B=w.heap.size)(hb:Below (w.alloc (.cells #[.int .i64 0,.int .i64 0,.int .i64 0] 106)).heap.size (w.alloc (.cells #[.int .i64 0,.int .i64 0,.int .i64 0] 106)) w1) :
  (w1.cell? ⟨B,0,none⟩=some (.int .i64 0)∧w1.cell? ⟨B,1,none⟩=some (.int .i64 0)∧w1.cell? ⟨B,2,none⟩=some (.int .i64 0)) ∧
  (w1.frozen? ⟨B,0,none⟩=false∧w1.frozen? ⟨B,1,none⟩=false∧w1.frozen? ⟨B,2,none⟩=false)∧B<w1.heap.size∧Below w.heap.size w w1:=by
 subst hB;have kb:Blk w1 w.heap.size 106 #[.int .i64 0,.int .i64 0,.int .i64 0]:=Blk.below_ (Blk.new_ rfl rfl) hb (by simp);have k0:=kb.cell_ 0;have k1:=kb.cell_ 1;have k2:=kb.cell_ 2;simp at k0 k1 k2;exact⟨⟨k0,k1,k2⟩,⟨kb.frozen_ 0,kb.frozen_ 1,kb.frozen_ 2⟩,kb.lt,zbl⟩
structure Ct where
 c0:Int
 c1:Int
 c2:Int
 c3:Int
 c4:Int
 c5:Int
 c6:Int
 c7:Int
deriving DecidableEq
def Ct.zero:Ct:=⟨0,0,0,0,0,0,0,0⟩
structure Jb where
 wr:Bool
 slot:Int
 frame:Int
 data:Ct
deriving DecidableEq
structure Pol where
 size:Int
 free:List Int
deriving DecidableEq
structure Sts where
 refs:List Int
 busy:List Bool
deriving DecidableEq
structure Dsk where
 cells:List Ct
 jobs:List Jb
 room:Int
deriving DecidableEq
structure Swp where
 cap:Int
 sl:Sts
 wr:List Wr
 rd:List Wr
 desc:List Int
 dk:Dsk
 po:Pol
deriving DecidableEq
def Pol.zero:Pol:=⟨0,[]⟩
def Sts.zero:Sts:=⟨[],[]⟩
def Dsk.zero:Dsk:=⟨[],[],0⟩
def Swp.zero:Swp:=⟨0,.zero,[],[],[],.zero,.zero⟩
def Jb.zero:Jb:=⟨false,0,0,.zero⟩
/-! ### the pool -/
def chkPG(size:Int)(pre:List Int):List Int→Int × Nat
 | []=>(0,0)
 | d::l=>if d<0∨size≤d then (2,pre.length) else if (pre.getLast?).any (fun p=>decide (d≤p)) then (8,pre.length) else chkPG size (pre++[d]) l
def chkP(p:Pol):Int × Nat:=if p.size<1∨32<p.size then (2,0) else chkPG p.size [] p.free
def newP(n:Int):Pol × Int:=if n<1∨32<n then (.zero,2) else (⟨n,(List.range n.toNat).map fun (i:Nat)=>(i:Int)⟩,0)
def tkP(p:Pol):Pol × Int × Int:=if (chkP p).1≠0 then (.zero,0,(chkP p).1) else match p.free with
 | []=>(.zero,0,5)
 | d::l=>(⟨p.size,l⟩,d,0)
def gvP(p:Pol)(d:Int):Pol × Int:=if (chkP p).1≠0 then (.zero,(chkP p).1) else if d<0∨p.size≤d then (.zero,2) else if d ∈ p.free then (.zero,7) else
 (⟨p.size,((List.range p.size.toNat).map fun (i:Nat)=>(i:Int)).filter fun i=>decide (i=d∨i ∈ p.free)⟩,0)
def tknP(p:Pol):List Int:=((List.range p.size.toNat).map fun (i:Nat)=>(i:Int)).filter fun i=>decide (i ∉ p.free)
/-! ### the slots -/
def chkT(s:Sts):Int × Nat:=if s.refs.length<1∨256<s.refs.length then (2,0) else if s.busy.length≠s.refs.length then (3,0) else
 match s.refs.findIdx? (fun r=>decide (r<0∨512<r)) with
 | none=>(0,0)
 | some i=>(15,i)
def newT(n:Int):Sts × Int:=if n<1∨256<n then (.zero,2) else (⟨List.replicate n.toNat 0,List.replicate n.toNat false⟩,0)
def refT(s:Sts)(i:Nat):Int:=s.refs.getD i 0
def bsyT(s:Sts)(i:Nat):Bool:=s.busy.getD i false
def freT(s:Sts)(i:Nat):Bool:=decide (refT s i=0) && !bsyT s i
def fstT(s:Sts):Option Nat:=(List.range s.refs.length).find? (freT s)
def witT(s:Sts)(i:Nat)(r:Int)(b:Bool):Sts:=⟨s.refs.set i r,s.busy.set i b⟩
def askT(s:Sts)(n:Int):Int:=if (chkT s).1≠0 then (chkT s).1 else if n<0∨s.refs.length≤n then 2 else 0
def alcT(s:Sts)(r:Int):Sts × Int × Int:=if (chkT s).1≠0 then (.zero,0,(chkT s).1) else if r<1∨512<r then (.zero,0,15) else match fstT s with
 | none=>(.zero,0,5)
 | some i=>(witT s i r true,i,0)
def firT(s:Sts):Int × Int:=if (chkT s).1≠0 then (0,(chkT s).1) else match fstT s with
 | none=>(0,5)
 | some i=>(i,0)
def addT(s:Sts)(n:Int):Sts × Int:=if askT s n≠0 then (.zero,askT s n) else if freT s n.toNat then (.zero,9) else if 512≤refT s n.toNat then (.zero,15) else
 (witT s n.toNat (refT s n.toNat+1) (bsyT s n.toNat),0)
def unrT(s:Sts)(n:Int):Sts × Bool × Int:=if askT s n≠0 then (.zero,false,askT s n) else if refT s n.toNat=0 then (.zero,false,15) else
 (witT s n.toNat (refT s n.toNat - 1) (bsyT s n.toNat),freT (witT s n.toNat (refT s n.toNat - 1) (bsyT s n.toNat)) n.toNat,0)
def setT(s:Sts)(n:Int):Sts × Bool × Int:=if askT s n≠0 then (.zero,false,askT s n) else if !bsyT s n.toNat then (.zero,false,9) else
 (witT s n.toNat (refT s n.toNat) false,freT (witT s n.toNat (refT s n.toNat) false) n.toNat,0)
/-! ### the disk -/
def inD(d:Dsk)(slot frame:Int):Bool:=decide (0≤slot∧slot<d.cells.length∧0≤frame∧frame<256)
def hitD(pre:List Jb)(slot frame:Int):Bool:=pre.any fun k=>decide (k.slot=slot∨k.frame=frame)
def chkDG(d:Dsk)(pre:List Jb):List Jb→Int × Nat
 | []=>(0,0)
 | j::l=>if !inD d j.slot j.frame then (2,pre.length) else if hitD pre j.slot j.frame then (10,pre.length) else if !j.wr && !decide (j.data=Ct.zero) then (3,pre.length) else chkDG d (pre++[j]) l
def chkD(d:Dsk):Int × Nat:=if d.cells.length<1∨256<d.cells.length∨d.room<1∨32<d.room then (2,0) else if d.room<d.jobs.length then (5,0) else chkDG d [] d.jobs
def newD(n r:Int):Dsk × Int:=if n<1∨256<n∨r<1∨32<r then (.zero,2) else (⟨List.replicate n.toNat .zero,[],r⟩,0)
def addD(d:Dsk)(j:Jb):Dsk × Int:=if (chkD d).1≠0 then (.zero,(chkD d).1) else if !inD d j.slot j.frame then (.zero,2) else if hitD d.jobs j.slot j.frame then (.zero,10) else
 if d.room≤d.jobs.length then (.zero,5) else (⟨d.cells,d.jobs++[j],d.room⟩,0)
def cmpD(d:Dsk)(n:Int):Dsk × Jb × Int:=if (chkD d).1≠0 then (.zero,.zero,(chkD d).1) else if n<0∨d.jobs.length≤n then (.zero,.zero,6) else
 if (d.jobs.getD n.toNat .zero).wr then (⟨d.cells.set (d.jobs.getD n.toNat .zero).slot.toNat (d.jobs.getD n.toNat .zero).data,d.jobs.eraseIdx n.toNat,d.room⟩,d.jobs.getD n.toNat .zero,0)
 else (⟨d.cells,d.jobs.eraseIdx n.toNat,d.room⟩,{ d.jobs.getD n.toNat .zero with data:=d.cells.getD (d.jobs.getD n.toNat .zero).slot.toNat .zero },0)
/-! ### the swap -/
def mtW(js:List Jb)(b:Bool)(vs:List Wr):Bool:=decide ((js.filter fun j=>j.wr == b).map (fun j=>(j.slot,j.frame))=vs.map (fun v=>(v.1,v.2.1)))
def wtW(s:Swp):List (Int × Int):=((s.wr++s.rd).filter fun v=>decide (v.2.2≠0)).map fun v=>(v.2.2,v.1)
def wtok(s:Swp):Bool:=decide ((wtW s).map (·.1)).Nodup && (wtW s).all fun x=>decide (1≤x.1∧x.1≤8)
def bsW(js:List Jb)(i:Nat):Bool:=js.any fun j=>decide (j.slot=i)
def agW(s:Swp):Bool:=
 (decide (s.sl.refs.length=s.dk.cells.length) && decide (s.dk.room=s.po.size) && decide ((s.wr.length:Int)≤s.cap)) && mtW s.dk.jobs true s.wr && mtW s.dk.jobs false s.rd &&
 decide (s.sl.busy=(List.range s.sl.busy.length).map (bsW s.dk.jobs)) && decide (s.desc.length=s.dk.jobs.length) && decide ((tknP s.po).length=s.desc.length) && (tknP s.po).all (fun d=>decide (d ∈ s.desc)) &&
 wtok s && (wtW s).all fun x=>decide (0<refT s.sl x.2.toNat)
def chkW(s:Swp):Int:=if s.cap<1∨16<s.cap then 2 else if (chkT s.sl).1≠0 then (chkT s.sl).1 else if (chkS s.wr).1≠0 then (chkS s.wr).1 else if (chkD s.dk).1≠0 then (chkD s.dk).1 else
 if (chkP s.po).1≠0 then (chkP s.po).1 else if agW s then 0 else 3
def newW(n room most:Int):Swp × Int:=if most<1∨16<most then (.zero,2) else if (newT n).2≠0 then (.zero,(newT n).2) else if (newD n room).2≠0 then (.zero,(newD n room).2) else
 if (newP room).2≠0 then (.zero,(newP room).2) else (⟨most,(newT n).1,[],[],[],(newD n room).1,(newP room).1⟩,0)
def hinW(s:Swp):List Int:=(if s.cap≤s.wr.length then [2] else [])++(if s.dk.room≤s.dk.jobs.length then [3] else [])++(if (fstT s.sl).isNone then [4] else [])
def frW(n:Int):Bool:=decide (0≤n∧n<256)
def usW(s:Swp)(f:Int):Bool:=s.dk.jobs.any fun j=>decide (j.frame=f)
def describeW(s:Swp):Swp:={ s with po:=(tkP s.po).1,desc:=s.desc++[(tkP s.po).2.1] }
def wrtW(s:Swp)(f r:Int)(c:Ct):Swp × Int × Int:=if chkW s≠0 then (.zero,0,chkW s) else if !frW f then (.zero,0,2) else if r<1∨512<r then (.zero,0,15) else if usW s f then (.zero,0,10) else
 if hinW s≠[] then (.zero,0,5) else
  (describeW { s with sl:=(alcT s.sl r).1,wr:=s.wr++[((alcT s.sl r).2.1,f,0)],dk:=(addD s.dk ⟨true,(alcT s.sl r).2.1,f,c⟩).1 },(alcT s.sl r).2.1,0)
def askW(s:Swp)(n p:Int):Int:=if n<0∨s.sl.refs.length≤n∨p<1∨8<p then 2 else if (wtW s).any (fun x=>decide (x.1=p)) then 7 else if refT s.sl n.toNat=0 then 9 else 0
def setC(l:List Wr)(i:Nat)(p:Int):List Wr:=l.set i ((l.getD i (0,0,0)).1,(l.getD i (0,0,0)).2.1,p)
def claW(s:Swp)(n p:Int):Swp × Int:=if chkW s≠0 then (.zero,chkW s) else if askW s n p≠0 then (.zero,askW s n p) else match s.wr.findIdx? (fun v=>decide (v.1=n)) with
 | none=>(.zero,6)
 | some i=>if (s.wr.getD i (0,0,0)).2.2≠0 then (.zero,10) else ({ s with wr:=setC s.wr i p },0)
structure Dn where
 job:Jb
 proc:Int
deriving DecidableEq
def Dn.zero:Dn:=⟨.zero,0⟩
def prcW(s:Swp)(j:Jb):Int:=(((if j.wr then s.wr else s.rd).find? fun v=>decide (v.1=j.slot)).getD (0,0,0)).2.2
def outW(l:List Wr)(n:Int):List Wr:=l.filter fun v=>decide (v.1≠n)
def cmpW(s:Swp)(n:Int):Swp × Dn × Int:=if chkW s≠0 then (.zero,.zero,chkW s) else if n<0∨s.dk.jobs.length≤n then (.zero,.zero,6) else
 let j:=(cmpD s.dk n).2.1
 let t:=(setT s.sl j.slot).1
 ({ s with dk:=(cmpD s.dk n).1,po:=(gvP s.po (s.desc.getD n.toNat 0)).1,desc:=s.desc.eraseIdx n.toNat,wr:=if j.wr then outW s.wr j.slot else s.wr,rd:=if j.wr then s.rd else outW s.rd j.slot,sl:=if prcW s j=0 then t else (unrT t j.slot).1 },⟨j,prcW s j⟩,0)
def addW(s:Swp)(n:Int):Swp × Int:=if chkW s≠0 then (.zero,chkW s) else if (addT s.sl n).2≠0 then (.zero,(addT s.sl n).2) else ({ s with sl:=(addT s.sl n).1 },0)
def unrW(s:Swp)(n:Int):Swp × Bool × Int:=if chkW s≠0 then (.zero,false,chkW s) else if (unrT s.sl n).2.2≠0 then (.zero,false,(unrT s.sl n).2.2) else
 if refT (unrT s.sl n).1 n.toNat=0∧(wtW s).any (fun x=>decide (x.2=n))=true then (.zero,false,9) else ({ s with sl:=(unrT s.sl n).1 },(unrT s.sl n).2.1,0)
end Go.Proofs.YthijbipidbjpfaaGreatDoor
