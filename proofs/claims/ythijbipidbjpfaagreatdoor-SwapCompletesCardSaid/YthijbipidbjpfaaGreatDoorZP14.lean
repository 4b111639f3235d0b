import Derived.Test.YthijbipidbjpfaaGreatDoorZP13
import Derived.Test.YthijbipidbjpfaaGreatDoorZP00
import Derived.Test.YthijbipidbjpfaaGreatDoorZP03
import Derived.Test.YthijbipidbjpfaaGreatDoorZP06
set_option linter.unusedSimpArgs false
set_option linter.unusedVariables false
set_option maxRecDepth 100000
set_option maxHeartbeats 8000000
namespace Go.Proofs.YthijbipidbjpfaaGreatDoor
open Go.RowKit Go.Maps
theorem dNew_any(N R:Int)(w:World)(hn:N≤40∨256<N):Calls Tryz.prog 74 #[.int .i64 N,.int .i64 R] w (DkPost (newD N R) w):=by
 have B0:Below w.heap.size w (w.alloc (.cells #[.slice none 0 0,.slice none 0 0,.int .i64 0] 31)):=zbl;obtain⟨b1,h1b⟩:∃ b,decide (N<1)=b:=⟨_,rfl⟩;obtain⟨b2,h2b⟩:∃ b,decide (N>256)=b:=⟨_,rfl⟩;obtain⟨b3,h3b⟩:∃ b,decide (R<1)=b:=⟨_,rfl⟩;obtain⟨b4,h4b⟩:∃ b,decide (R>32)=b:=⟨_,rfl⟩
 by_cases hb:b1=false∧b2=false∧b3=false∧b4=false
 ·obtain⟨rfl,rfl,rfl,rfl⟩:=hb
  simp only[decide_eq_false_iff_not,Int.not_lt] at h1b h2b h3b h4b;obtain⟨n,rfl⟩:∃ n:Nat,N=n:=⟨N.toNat,by omega⟩;have hm:n≤40:=by omega
  have HE:Hid (newD n R=(⟨List.replicate n .zero,[],R⟩,0)):=by show _=_;unfold newD;rw[if_neg (by omega)];simp
  have h1b:decide ((n:Int)<1)=false:=by simpa using h1b
  have h2b:decide ((n:Int)>256)=false:=by simpa using h2b
  have h3b:decide (R<1)=false:=by simpa using h3b
  have h4b:decide (R>32)=false:=by simpa using h4b
  rw[HE.out]
  have hmC:=fun (W:World)=>run_mkR ctE .zero (by rfl) n (by omega) W
  replace hmC:∀ W:World,(Instr.makeSlice 28 (.int .i64 n) (.int .i64 n)).run Tryz.prog W=.ok (.slice (some ⟨W.heap.size,0,none⟩) n n) (W.alloc (.cells (ctE.flat (List.replicate n .zero)).toArray 38)):=hmC
  obtain⟨Z,hZ⟩:∃ Z,(w.alloc (.cells #[.slice none 0 0,.slice none 0 0,.int .i64 0] 31)).alloc (.cells (ctE.flat (List.replicate n .zero)).toArray 38)=Z:=⟨_,rfl⟩;have kT:Blk Z w.heap.size 31 #[.slice none 0 0,.slice none 0 0,.int .i64 0]:=by rw[←hZ];exact(Blk.new_ rfl rfl:Blk (w.alloc _) w.heap.size _ _).alloc_ _
  have BZ:Below w.heap.size w Z:=by rw[←hZ];exact zbl
  have oZ:OwnR ctE Z (w.heap.size+1) (.slice (some ⟨w.heap.size+1,0,none⟩) n n) (List.replicate n .zero):=by rw[←hZ];have h:=OwnR.made ctE .zero n (by omega) (w.alloc (.cells #[.slice none 0 0,.slice none 0 0,.int .i64 0] 31)) (Nat.le_refl _);rw[show (w.alloc (.cells #[.slice none 0 0,.slice none 0 0,.int .i64 0] 31)).heap.size=w.heap.size+1 by simp] at h;exact h
  have zT:=kT.lt;obtain⟨t0,t1,t2⟩:=zc3 kT;obtain⟨tf0,tf1,tf2,-⟩:=zf kT
  go_enter Tryz.func74,Tryz.ntmps74
  go_wp2_with fail;(try rw[hZ]);go_wp2_with fail;obtain⟨W,hW⟩:∃ W,World.setCell (World.setCell (World.setCell Z ⟨w.heap.size,0,none⟩ (.slice (some ⟨w.heap.size+1,0,none⟩) n n)) ⟨w.heap.size,1,none⟩ (.slice none 0 0)) ⟨w.heap.size,2,none⟩ (.int .i64 R)=W:=⟨_,rfl⟩;have kW:Blk W (w.heap.size) 31 #[.slice (some ⟨w.heap.size+1,0,none⟩) n n,.slice none 0 0,.int .i64 R]:=by rw[←hW];exact(Blk.set_ (Blk.set_ (Blk.set_ kT 0 _) 1 _) 2 _)
  have bW:Below w.heap.size w W:=by rw[←hW];exact((BZ.setCell (p:=⟨w.heap.size,0,none⟩) (Nat.le_refl _) _).setCell (p:=⟨w.heap.size,1,none⟩) (Nat.le_refl _) _).setCell (p:=⟨w.heap.size,2,none⟩) (Nat.le_refl _) _
  have oW:OwnR ctE W (w.heap.size+1) (.slice (some ⟨w.heap.size+1,0,none⟩) n n) (List.replicate n .zero):=by rw[←hW];exact((oZ.far _ (by exact Nat.lt_succ_self _)).far _ (by exact Nat.lt_succ_self _)).far _ (by exact Nat.lt_succ_self _)
  rw[hW];clear hW t0 t1 t2 hZ hmC;refine bodyPost_ret (by simp[results,Tryz.results74,go_sem,zc3 kW] <;> rfl) rfl ?_;exact⟨some ⟨w.heap.size+1,0,none⟩,n,none,0,by simp[dkV],OwnE.of_own (oW.base_ (by omega)) (by simp),OwnE.nil,bW⟩
 ·have HE:Hid (newD N R=(.zero,2)):=by
   show _=_;unfold newD;rw[if_pos]
   by_cases e1:N<1
   ·exact .inl e1
   by_cases e2:256<N
   ·exact .inr (.inl e2)
   by_cases e3:R<1
   ·exact .inr (.inr (.inl e3))
   by_cases e4:32<R
   ·exact .inr (.inr (.inr e4))
   ·exact absurd ⟨by rw[←h1b];simpa using e1,by rw[←h2b];simpa using e2,by rw[←h3b];simpa using e3,by rw[←h4b];simpa using e4⟩ hb
  rw[HE.out];clear HE hn
  cases b1 <;> cases b2 <;> cases b3 <;> cases b4 <;> first
   | exact absurd ⟨rfl,rfl,rfl,rfl⟩ hb
   | (clear hb
      go_enter Tryz.func74,Tryz.ntmps74
      go_wp2_with fail
      refine bodyPost_ret (by simp[results,Tryz.results74,go_sem] <;> rfl) rfl ?_
      exact DkPost.zero B0)
 
def setV8(w:World)(g o:Nat)(v0 v1 v2 v3 v4 v5 v6 v7:Value):World:=(World.setCell (World.setCell (World.setCell (World.setCell (World.setCell (World.setCell (World.setCell (World.setCell w ⟨g,o,none⟩ v0) ⟨g,o+1,none⟩ v1) ⟨g,o+2,none⟩ v2) ⟨g,o+3,none⟩ v3) ⟨g,o+4,none⟩ v4) ⟨g,o+5,none⟩ v5) ⟨g,o+6,none⟩ v6) ⟨g,o+7,none⟩ v7)
def setC8(w:World)(g o:Nat)(x:Ct):World:=setV8 w g o (.int .u64 x.c0) (.int .u64 x.c1) (.int .u64 x.c2) (.int .u64 x.c3) (.int .u64 x.c4) (.int .u64 x.c5) (.int .u64 x.c6) (.int .u64 x.c7)
section
variable {P : Program} {α : Type}
theorem OwnR.set8{E:Elt P α}(hs:E.sz=8){w:World}{base g n c:Nat}{l:List α}(h:OwnR E w base (.slice (some ⟨g,0,none⟩) n c) l){i:Nat}(hi:i<l.length)(x:α){o:Nat}(ho:o=i*8){v0 v1 v2 v3 v4 v5 v6 v7:Value}(hv:E.enc x=[v0,v1,v2,v3,v4,v5,v6,v7]):OwnR E (setV8 w g o v0 v1 v2 v3 v4 v5 v6 v7) base (.slice (some ⟨g,0,none⟩) n c) (l.set i x):=by
 subst ho;obtain⟨g',cur,e,rfl,hg,hb,h1,h2,h3,h4⟩:=h.blk (by omega);have e':g=g':=by injection e with e;injection e
 subst e';clear e;unfold OwnR setV8;rw[List.length_set];have hB0:=Blk.set_ hb (i*8) v0;have hB1:=Blk.set_ hB0 (i*8+1) v1;have hB2:=Blk.set_ hB1 (i*8+2) v2;have hB3:=Blk.set_ hB2 (i*8+3) v3;have hB4:=Blk.set_ hB3 (i*8+4) v4;have hB5:=Blk.set_ hB4 (i*8+5) v5;have hB6:=Blk.set_ hB5 (i*8+6) v6;have hB7:=Blk.set_ hB6 (i*8+7) v7;have hfl:(E.flat (l.set i x)).length=l.length*E.sz:=by rw[E.flat_length,List.length_set]
 refine⟨hfl,.inr ⟨g,c,_,rfl,hg,hB7,h1,h2,by simp only[Array.size_setIfInBounds];exact h3,?_⟩⟩;simp only[Array.toList_setIfInBounds,List.take_set,h4]
 have e:∀ (y:α) (l:List α),E.flat (y::l)=E.enc y++E.flat l:=fun _ _=>rfl
 have key:∀ (l:List α) (i:Nat),i<l.length→(List.set (List.set (List.set (List.set (List.set (List.set (List.set (List.set (E.flat l) (i*8) v0) (i*8+1) v1) (i*8+2) v2) (i*8+3) v3) (i*8+4) v4) (i*8+5) v5) (i*8+6) v6) (i*8+7) v7)=E.flat (l.set i x):=by
  intro l
  induction l with
  | nil=>intro i h;simp at h
  | cons y l ih=>
   intro i hi;have hy:=E.hlen y;rw[hs] at hy
   obtain⟨a0,a1,a2,a3,a4,a5,a6,a7,hu⟩:∃ a0 a1 a2 a3 a4 a5 a6 a7,E.enc y=[a0,a1,a2,a3,a4,a5,a6,a7]:=by
    match E.enc y,hy with
    | [a0,a1,a2,a3,a4,a5,a6,a7],_=>exact⟨a0,a1,a2,a3,a4,a5,a6,a7,rfl⟩
   cases i with
   | zero=>
    rw[List.set_cons_zero,e,e,hu,hv];simp only[Nat.zero_mul,Nat.zero_add,List.cons_append,List.nil_append,List.set_cons_zero,List.set_cons_succ]
   | succ i=>
    rw[List.set_cons_succ,e,e,hu,←ih i (by simpa using hi)]
    have q:∀ k,(i+1)*8+k=(i*8+k)+1+1+1+1+1+1+1+1:=fun k=>by omega
    have q0:=q 0;simp only[Nat.add_zero] at q0;simp only[q,q0,List.cons_append,List.nil_append,List.set_cons_succ]
 exact key l i hi
end
theorem OwnR.setC{w:World}{base g n c:Nat}{l:List Ct}(h:OwnR ctE w base (.slice (some ⟨g,0,none⟩) n c) l){i:Nat}(hi:i<l.length)(x:Ct){o:Nat}(ho:o=i*8):OwnR ctE (setC8 w g o x) base (.slice (some ⟨g,0,none⟩) n c) (l.set i x):=OwnR.set8 (E:=ctE) rfl h hi x ho rfl
theorem grown_set{w w':World}{b:Nat}(h:w.grownBy w' (some b))(i:Nat)(u:Value):w.grownBy (w'.setCell ⟨b,i,none⟩ u) (some b):=
 h.andThen (show w'.grownBy (w'.setCell ⟨b,i,none⟩ u) (some b) from ⟨rfl,rfl,rfl,by simp[World.setCell],fun j _ hj=>by simp only[World.setCell,Array.getElem?_modify];rw[if_neg (by simpa using fun e=>hj (by rw[e]))]⟩) (fun j hj=>.inr hj)
def setN(w:World)(b o:Nat):List Value→World
 | []=>w
 | v::vs=>setN (w.setCell ⟨b,o,none⟩ v) b (o+1) vs
def setA(cs:Array Value)(o:Nat):List Value→Array Value
 | []=>cs
 | v::vs=>setA (cs.setIfInBounds o v) (o+1) vs
theorem grown_setN'{w:World}{b:Nat}:∀ (vs:List Value) (o:Nat) (w':World),w.grownBy w' (some b)→w.grownBy (setN w' b o vs) (some b)
 | [],_,_,h=>h
 | v::vs,o,_,h=>grown_setN' vs (o+1) _ (grown_set h o v)
theorem grown_setN(w:World)(b o:Nat)(vs:List Value):w.grownBy (setN w b o vs) (some b):=grown_setN' vs o w (grown_refl _ _)
theorem blk_setA{b:Nat}{t:TypeId}:∀ (vs:List Value) (o:Nat) (w:World) (cs:Array Value),Blk w b t cs→Blk (setN w b o vs) b t (setA cs o vs)
 | [],_,_,_,h=>h
 | v::vs,o,_,_,h=>blk_setA vs (o+1) _ _ (h.set_ o v)
theorem setA_eq:∀ (vs:List Value) (o:Nat) (cs:Array Value),cs.size=o+vs.length→(setA cs o vs).toList=cs.toList.take o++vs
 | [],o,cs,h=>by
  have:cs.toList.length≤o:=by simp at h ⊢;omega
  simp[setA,List.take_of_length_le this]
 | v::vs,o,cs,h=>by
  have hl:o<cs.toList.length:=by simp at h ⊢;omega
  rw[setA,setA_eq vs (o+1) _ (by simp at h ⊢;omega),Array.toList_setIfInBounds,List.take_set,List.take_add_one,List.getElem?_eq_getElem hl];have hm:min o cs.toList.length=o:=Nat.min_eq_left (Nat.le_of_lt hl);rw[List.set_append,List.length_take,hm,if_neg (Nat.lt_irrefl o),Nat.sub_self];simp
theorem blk_setN{b:Nat}{t:TypeId}{w:World}{cs:Array Value}(h:Blk w b t cs)(vs:List Value)(hs:cs.size=vs.length):Blk (setN w b 0 vs) b t vs.toArray:=by
 have h1:=blk_setA vs 0 w cs h;have h2:=setA_eq vs 0 cs (by omega);rw[List.take_zero,List.nil_append] at h2;have h3:setA cs 0 vs=vs.toArray:=by have:=congrArg List.toArray h2;rwa [Array.toArray_toList] at this
 rw[←h3];exact h1
theorem below_setN{base b o:Nat}{w w':World}(h:Below base w w')(hb:base≤b)(vs:List Value):Below base w (setN w' b o vs):=by
 induction vs generalizing w' o with
 | nil=>exact h
 | cons v vs ih=>exact ih (h.setCell (p:=⟨b,o,none⟩) hb v)
theorem blk_setO{b o:Nat}{t:TypeId}{w:World}{cs:Array Value}(h:Blk w b t cs)(vs:List Value)(hs:cs.size=o+vs.length):Blk (setN w b o vs) b t (cs.toList.take o++vs).toArray:=by
 have h1:=blk_setA vs o w cs h;have h2:=setA_eq vs o cs hs;have h3:setA cs o vs=(cs.toList.take o++vs).toArray:=by have:=congrArg List.toArray h2;rwa [Array.toArray_toList] at this
 rw[←h3];exact h1
theorem below_grownB{base:Nat}{w a b:World}{B:Nat}(h:Below base w a)(hg:a.grownBy b (some B))(hB:base≤B)(hw:base≤w.heap.size):Below base w b:=
 ⟨hg.os.trans h.os,hg.tape.trans h.tape,hg.output.trans h.output,Nat.le_trans h.size hg.size,fun k hk=>(hg.block k (by have:=h.size;omega) (by simp;omega)).trans (h.block k hk)⟩
theorem grown_setC8(w:World)(g o:Nat)(x:Ct):w.grownBy (setC8 w g o x) (some g):=
 grown_setN w g o (zkk x.c0 x.c1 x.c2 x.c3 x.c4 x.c5 x.c6 x.c7)
theorem OwnE.farN{α:Type}{E:Elt Tryz.prog α}{w:World}{base:Nat}{A:Option Addr}{c:Nat}{l:List α}(h:OwnE E w base A c l){b o:Nat}(hb:b<base):∀ vs:List Value,OwnE E (setN w b o vs) base A c l:=fun vs=>by
 induction vs generalizing w o with
 | nil=>exact h
 | cons v vs ih=>exact ih (h.far (p:=⟨b,o,none⟩) hb v)
theorem OwnR.same{P:Program}{α:Type}{E:Elt P α}{w w':World}{base g n c:Nat}{l:List α}(h:OwnR E w base (.slice (some ⟨g,0,none⟩) n c) l)(e:w'.heap[g]? = w.heap[g]?):OwnR E w' base (.slice (some ⟨g,0,none⟩) n c) l:=by
 obtain⟨hl,⟨e2,hn⟩ | ⟨g',cap,cur,e2,hg,hb,h1⟩⟩:=h
 ·cases e2
 ·have e3:g=g':=by injection e2 with e2;injection e2 with e2;injection e2
  subst e3;exact⟨hl,.inr ⟨g,cap,cur,e2,hg,e.trans hb,h1⟩⟩
theorem OwnR.at0{P:Program}{α:Type}{E:Elt P α}{w:World}{base n c:Nat}{A:Option Addr}{l:List α}(h:OwnR E w base (.slice A n c) l)(hp:0<l.length):∃ g,A=some ⟨g,0,none⟩∧base≤g∧g<w.heap.size:=by
 obtain⟨g,cur,e,_,hg,hb,_⟩:=h.blk hp;exact⟨g,e,hg,hb.lt⟩
theorem zs11{w W:World}{b:Nat}{v0 v1 v2 v3 v4 v5 v6 v7 v8 v9 v10:Value}(h:setN w b 0 [v0,v1,v2,v3,v4,v5,v6,v7,v8,v9,v10]=W):(World.setCell (World.setCell (World.setCell (World.setCell (World.setCell (World.setCell (World.setCell (World.setCell (World.setCell (World.setCell (World.setCell w ⟨b,0,none⟩ v0) ⟨b,1,none⟩ v1) ⟨b,2,none⟩ v2) ⟨b,3,none⟩ v3) ⟨b,4,none⟩ v4) ⟨b,5,none⟩ v5) ⟨b,6,none⟩ v6) ⟨b,7,none⟩ v7) ⟨b,8,none⟩ v8) ⟨b,9,none⟩ v9) ⟨b,10,none⟩ v10)=W:=h
theorem zs12{w W:World}{b:Nat}{v0 v1 v2 v3 v4 v5 v6 v7 v8 v9 v10 v11:Value}(h:setN w b 0 [v0,v1,v2,v3,v4,v5,v6,v7,v8,v9,v10,v11]=W):(World.setCell (World.setCell (World.setCell (World.setCell (World.setCell (World.setCell (World.setCell (World.setCell (World.setCell (World.setCell (World.setCell (World.setCell w ⟨b,0,none⟩ v0) ⟨b,1,none⟩ v1) ⟨b,2,none⟩ v2) ⟨b,3,none⟩ v3) ⟨b,4,none⟩ v4) ⟨b,5,none⟩ v5) ⟨b,6,none⟩ v6) ⟨b,7,none⟩ v7) ⟨b,8,none⟩ v8) ⟨b,9,none⟩ v9) ⟨b,10,none⟩ v10) ⟨b,11,none⟩ v11)=W:=h
theorem zt{w W:World}{a b:Nat}{u0 u1 u2 u3 u4 u5 u6 u7 u8 u9 u10 v0 v1 v2 v3 v4 v5 v6 v7 v8 v9 v10 v11:Value}(h:setN (setN w a 0 [u0,u1,u2,u3,u4,u5,u6,u7,u8,u9,u10]) b 0 [v0,v1,v2,v3,v4,v5,v6,v7,v8,v9,v10,v11]=W):(World.setCell (World.setCell (World.setCell (World.setCell (World.setCell (World.setCell (World.setCell (World.setCell (World.setCell (World.setCell (World.setCell (World.setCell (World.setCell (World.setCell (World.setCell (World.setCell (World.setCell (World.setCell (World.setCell (World.setCell (World.setCell (World.setCell (World.setCell w ⟨a,0,none⟩ u0) ⟨a,1,none⟩ u1) ⟨a,2,none⟩ u2) ⟨a,3,none⟩ u3) ⟨a,4,none⟩ u4) ⟨a,5,none⟩ u5) ⟨a,6,none⟩ u6) ⟨a,7,none⟩ u7) ⟨a,8,none⟩ u8) ⟨a,9,none⟩ u9) ⟨a,10,none⟩ u10) ⟨b,0,none⟩ v0) ⟨b,1,none⟩ v1) ⟨b,2,none⟩ v2) ⟨b,3,none⟩ v3) ⟨b,4,none⟩ v4) ⟨b,5,none⟩ v5) ⟨b,6,none⟩ v6) ⟨b,7,none⟩ v7) ⟨b,8,none⟩ v8) ⟨b,9,none⟩ v9) ⟨b,10,none⟩ v10) ⟨b,11,none⟩ v11)=W:=h
theorem zu{w W:World}{a b:Nat}{u0 u1 u2 v0 v1 v2 v3 v4 v5 v6 v7 v8 v9 v10:Value}(h:setN (setN w a 0 [u0,u1,u2]) b 0 [v0,v1,v2,v3,v4,v5,v6,v7,v8,v9,v10]=W):(World.setCell (World.setCell (World.setCell (World.setCell (World.setCell (World.setCell (World.setCell (World.setCell (World.setCell (World.setCell (World.setCell (World.setCell (World.setCell (World.setCell w ⟨a,0,none⟩ u0) ⟨a,1,none⟩ u1) ⟨a,2,none⟩ u2) ⟨b,0,none⟩ v0) ⟨b,1,none⟩ v1) ⟨b,2,none⟩ v2) ⟨b,3,none⟩ v3) ⟨b,4,none⟩ v4) ⟨b,5,none⟩ v5) ⟨b,6,none⟩ v6) ⟨b,7,none⟩ v7) ⟨b,8,none⟩ v8) ⟨b,9,none⟩ v9) ⟨b,10,none⟩ v10)=W:=h
theorem zsw{w W:World}{b:Nat}{T:TypeId}{cs:Array Value}{l:List Value}(h:setN w b 0 l=W)(k:Blk w b T cs)(hl:cs.size=l.length:=by rfl):Blk W b T l.toArray:=by subst h;exact blk_setN k _ hl
theorem zbw{w w0 W:World}{B b o:Nat}{l:List Value}(h:setN w b o l=W)(k:Below B w0 w)(hb:B≤b):Below B w0 W:=by subst h;exact below_setN k hb _
theorem OwnR.job{w:World}{base g n c k:Nat}{l:List Jb}{jw:Bool}{js jf c0 c1_ c2_ c3 c4 c5_ c6 c7:Int}(h:OwnR jbE w base (.slice (some ⟨g,0,none⟩) n c) l)(hx:l[k]? = some ⟨jw,js,jf,⟨c0,c1_,c2_,c3,c4,c5_,c6,c7⟩⟩):w.cell? ⟨g,k*11,none⟩=some (.bool jw)∧w.cell? ⟨g,k*11+1,none⟩=some (.int .i64 js)∧w.cell? ⟨g,k*11+2,none⟩=some (.int .i64 jf)∧w.cell? ⟨g,k*11+3,none⟩=some (.int .u64 c0)∧w.cell? ⟨g,k*11+4,none⟩=some (.int .u64 c1_)∧w.cell? ⟨g,k*11+5,none⟩=some (.int .u64 c2_)∧w.cell? ⟨g,k*11+6,none⟩=some (.int .u64 c3)∧w.cell? ⟨g,k*11+7,none⟩=some (.int .u64 c4)∧w.cell? ⟨g,k*11+8,none⟩=some (.int .u64 c5_)∧w.cell? ⟨g,k*11+9,none⟩=some (.int .u64 c6)∧w.cell? ⟨g,k*11+10,none⟩=some (.int .u64 c7):=by
 obtain⟨hk,_⟩:=List.getElem?_eq_some_iff.1 hx;obtain⟨b,off,y,e,_,hy,hc⟩:=h.sr.2.at_ hk;have e':g=b∧0=off:=by injection e with e;injection e with e1 e2;exact⟨e1,e2⟩
 obtain⟨rfl,rfl⟩:=e';rw[hx] at hy
 cases hy
 have z11:jbE.sz=11:=rfl;refine⟨?_,?_,?_,?_,?_,?_,?_,?_,?_,?_,?_⟩
 ·simpa [z11] using hc 0 _ rfl
 ·simpa [z11] using hc 1 _ rfl
 ·simpa [z11] using hc 2 _ rfl
 ·simpa [z11] using hc 3 _ rfl
 ·simpa [z11] using hc 4 _ rfl
 ·simpa [z11] using hc 5 _ rfl
 ·simpa [z11] using hc 6 _ rfl
 ·simpa [z11] using hc 7 _ rfl
 ·simpa [z11] using hc 8 _ rfl
 ·simpa [z11] using hc 9 _ rfl
 ·simpa [z11] using hc 10 _ rfl
theorem OwnR.ct{w:World}{base g n c k:Nat}{l:List Ct}{x0 x1_ x2_ x3 x4 x5_ x6 x7:Int}(h:OwnR ctE w base (.slice (some ⟨g,0,none⟩) n c) l)(hx:l[k]? = some ⟨x0,x1_,x2_,x3,x4,x5_,x6,x7⟩):w.cell? ⟨g,k*8,none⟩=some (.int .u64 x0)∧w.cell? ⟨g,k*8+1,none⟩=some (.int .u64 x1_)∧w.cell? ⟨g,k*8+2,none⟩=some (.int .u64 x2_)∧w.cell? ⟨g,k*8+3,none⟩=some (.int .u64 x3)∧w.cell? ⟨g,k*8+4,none⟩=some (.int .u64 x4)∧w.cell? ⟨g,k*8+5,none⟩=some (.int .u64 x5_)∧w.cell? ⟨g,k*8+6,none⟩=some (.int .u64 x6)∧w.cell? ⟨g,k*8+7,none⟩=some (.int .u64 x7):=by
 obtain⟨hk,_⟩:=List.getElem?_eq_some_iff.1 hx;obtain⟨b,off,y,e,_,hy,hc⟩:=h.sr.2.at_ hk;have e':g=b∧0=off:=by injection e with e;injection e with e1 e2;exact⟨e1,e2⟩
 obtain⟨rfl,rfl⟩:=e';rw[hx] at hy
 cases hy
 have z8:ctE.sz=8:=rfl;refine⟨?_,?_,?_,?_,?_,?_,?_,?_⟩
 ·simpa [z8] using hc 0 _ rfl
 ·simpa [z8] using hc 1 _ rfl
 ·simpa [z8] using hc 2 _ rfl
 ·simpa [z8] using hc 3 _ rfl
 ·simpa [z8] using hc 4 _ rfl
 ·simpa [z8] using hc 5 _ rfl
 ·simpa [z8] using hc 6 _ rfl
 ·simpa [z8] using hc 7 _ rfl
theorem OwnR.blk0{P:Program}{α:Type}{E:Elt P α}{w:World}{base g n c k:Nat}{l:List α}(h:OwnR E w base (.slice (some ⟨g,0,none⟩) n c) l)(hk:k<l.length):∃ cur,Blk w g E.e cur:=by
 obtain⟨g',cur,e,_,_,hb,_⟩:=h.blk (by omega);have e3:g=g':=by injection e with e;injection e
 subst e3;exact⟨cur,hb⟩
theorem OwnE.keptB4{α:Type}{E:Elt Tryz.prog α}{w w3 w4:World}{base:Nat}{A:Option Addr}{c:Nat}{l:List α}(h:OwnE E w base A c l)(hb:Below w.heap.size w w3){D:Nat}{t:TypeId}{cs:Array Value}(hD:E.e≠t)(kD:Blk w D t cs)(hg:w3.grownBy w4 (some D)):OwnE E w4 base A c l:=by
 by_cases hc:c=0
 ·have hl0:l=[]:=by
   have:=h.cr.2;exact List.length_eq_zero_iff.1 (by omega)
  subst hl0 hc;exact⟨.inl ⟨rfl,SR.nil⟩,.inl rfl⟩
 ·have h1:=h.row hc
  have key:OwnR E w4 base (.slice A l.length c) l:=by
   obtain⟨hl,⟨e,hn⟩ | ⟨g,cap,cur,e,hg',hb',hr⟩⟩:=h1
   ·exact⟨hl,.inl ⟨e,hn⟩⟩
   ·have hlt:=(Array.getElem?_eq_some_iff.1 hb').1
    refine⟨hl,.inr ⟨g,cap,cur,e,hg',?_,hr⟩⟩;rw[hg.block g (Nat.lt_of_lt_of_le hlt hb.size) (fun e2 => ?_),hb.block g hlt]
    ·exact hb'
    ·have e3:D=g:=by injection e2 with e2;exact e2.symm
     subst e3;unfold Blk at kD;rw[kD] at hb';injection hb' with hb'
     injection hb' with _ hb'
     exact hD hb'.symm
  exact⟨.inr key,.inr key⟩
def dkR(d:Dsk)(j:Jb)(k:Nat):Dsk × Jb:=if j.wr then (⟨d.cells.set j.slot.toNat j.data,d.jobs.eraseIdx k,d.room⟩,j) else (⟨d.cells,d.jobs.eraseIdx k,d.room⟩,{ j with data:=d.cells.getD j.slot.toNat .zero })
def CoPost(k0:Dsk)(A:Option Addr)(c D base:Nat)(R:Dsk × Jb)(w:World)(e:Ending)(w':World):Prop:=∃ B d,e=.returned (jbV R.2)∧Blk w' D 31 #[.slice A k0.cells.length c,.slice B R.1.jobs.length d,.int .i64 k0.room]∧OwnE ctE w' base A c R.1.cells∧OwnE jbE w' w.heap.size B d R.1.jobs∧Below base w w'
theorem dComplete_first(A B:Option Addr)(c d D base:Nat)(k0:Dsk)(k:Nat)(j:Jb)(w:World)(hx:k0.jobs[k]? = some j)(ha:OwnE ctE w base A c k0.cells)(hb:OwnE jbE w base B d k0.jobs)(kD:Blk w D 31 #[.slice A k0.cells.length c,.slice B k0.jobs.length d,.int .i64 k0.room])(hbD:base≤D)(hlt:ctE.e≠31)(la:k0.cells.length≤1000)(lb:k0.jobs.length≤1000)(hs0:0≤j.slot)(hs1:j.slot<k0.cells.length) :
  Calls Tryz.prog 175 #[.pointer (some ⟨D,0,none⟩),.int .i64 (k:Int)] w (CoPost k0 A c D base (dkR k0 j k) w):=by
 have hk:=(List.getElem?_eq_some_iff.1 hx).1;have hpos:0<k0.jobs.length:=by omega
 have hne:k0.jobs≠[]:=fun e=>by rw[e] at hpos;simp at hpos
 have hob:=hb.own.resolve_left hne;obtain⟨gB,rfl,hgB,hgBl⟩:=hob.at0 hpos
 have neDB:D≠gB:=fun e=>by
  obtain⟨g',cur,e2,_,_,hb',_⟩:=hob.blk hpos;have e3:gB=g':=by injection e2 with e2;injection e2
  subst e3 e;unfold Blk at kD hb';rw[kD] at hb';injection hb' with hb'
  injection hb' with _ hb'
  exact absurd hb' (by decide)
 have hbase:base≤w.heap.size:=by omega
 have HO:=Lib.hid ha;have HB:=Lib.hid hob;have hX:=Lib.hid hx;obtain⟨jw,js,jf,⟨c0,c1_,c2_,c3,c4,c5_,c6,c7⟩⟩:=j;dsimp only at hs0 hs1;obtain⟨js,rfl⟩:∃ m:Nat,js=m:=⟨js.toNat,by omega⟩;have hsl:js<k0.cells.length:=by omega
 have hnec:k0.cells≠[]:=fun e=>by rw[e] at hsl;simp at hsl
 obtain⟨gA,rfl,hgA,hgAl⟩:=(ha.own.resolve_left hnec).at0 (by omega)
 have neDA:D≠gA:=fun e=>by
  obtain⟨g',cur,e2,_,_,hb',_⟩:=(ha.own.resolve_left hnec).blk (by omega);have e3:gA=g':=by injection e2 with e2;injection e2
  subst e3 e;unfold Blk at kD hb';rw[kD] at hb';injection hb' with hb'
  injection hb' with _ hb'
  exact hlt hb'.symm
 obtain⟨⟨x0,x1_,x2_,x3,x4,x5_,x6,x7⟩,hxc⟩:∃ x,k0.cells[js]? = some x:=⟨_,List.getElem?_eq_getElem hsl⟩;have HXC:=Lib.hid hxc;clear hxc;have HLA:=Lib.hid hlt;obtain⟨R,hRR⟩:∃ R,dkR k0 ⟨jw,js,jf,⟨c0,c1_,c2_,c3,c4,c5_,c6,c7⟩⟩ k=R:=⟨_,rfl⟩;rw[hRR];have HRR:=Lib.hid hRR;clear hRR;clear ha hb hob hx;have zD:=kD.lt;obtain⟨X,hXX⟩:∃ X,(w.alloc (.cells (zkj false 0 0 0 0 0 0 0 0 0 0).toArray 115)).alloc (.cells (zkj false 0 0 0 0 0 0 0 0 0 0).toArray 115)=X:=⟨_,rfl⟩;have kT:Blk X w.heap.size 115 (zkj false 0 0 0 0 0 0 0 0 0 0).toArray:=by rw[←hXX];exact(Blk.new_ rfl rfl:Blk (w.alloc _) w.heap.size _ _).alloc_ _
 have kU:=za2 hXX;have BX:Below w.heap.size w X:=by rw[←hXX];exact zbl
 have hXs:X.heap.size=w.heap.size+2:=by rw[←hXX];simp
 have hk1:(k:Int)<k0.jobs.length:=by omega
 have hw64:IntKind.i64.wrap ((k:Int)+1)=(k:Int)+1:=IntWalk.i64_in _ (by omega);have HW64:=Lib.hid hw64;clear hw64
 go_enter Tryz.func175,Tryz.ntmps175
 go_upto_region 2 with fail;(try rw[hXX]);clear hXX
 go_cut [] from 6 to 24 (fun wx=>∃ g d1:Nat,Blk wx w.heap.size 115 (zkj false 0 0 0 0 0 0 0 0 0 0).toArray∧Blk wx (w.heap.size+1) 115 (zkj jw js jf c0 c1_ c2_ c3 c4 c5_ c6 c7).toArray∧Blk wx D 31 #[.slice (some ⟨gA,0,none⟩) k0.cells.length c,.slice (some ⟨g,0,none⟩) (k0.jobs.length - 1) d1,.int .i64 k0.room]∧OwnE ctE wx base (some ⟨gA,0,none⟩) c k0.cells∧OwnR jbE wx (w.heap.size+2) (.slice (some ⟨g,0,none⟩) (k0.jobs.length - 1) d1) (k0.jobs.eraseIdx k)∧Below base w wx)
 case first=>
  obtain⟨W0,hW0⟩:∃ W,X.drew=W:=⟨_,rfl⟩;have b0:Below X.heap.size X W0:=by rw[←hW0];exact(Below.refl _ _).drew
  have hz0:W0.heap.size=X.heap.size:=by rw[←hW0];rfl
  have B0:=zbt BX b0;have kD0:=kD.below_ B0 zD;have kT0:=kT.below_ b0 kT.lt;have kU0:=kU.below_ b0 kU.lt;have HB0:=Lib.hid (HB.out.ext B0);have s0:=HB0.out.job hX.out;have zD0:=kD0.lt;have p1a:=zc kD0 1;refine wp_region_held_drew (S:=fun W=>W.cell? ⟨gB,k*11,none⟩=some (.bool jw)∧W.cell? ⟨gB,k*11+1,none⟩=some (.int .i64 js)∧W.cell? ⟨gB,k*11+2,none⟩=some (.int .i64 jf)∧W.cell? ⟨gB,k*11+3,none⟩=some (.int .u64 c0)∧W.cell? ⟨gB,k*11+4,none⟩=some (.int .u64 c1_)∧W.cell? ⟨gB,k*11+5,none⟩=some (.int .u64 c2_)∧W.cell? ⟨gB,k*11+6,none⟩=some (.int .u64 c3)∧W.cell? ⟨gB,k*11+7,none⟩=some (.int .u64 c4)∧W.cell? ⟨gB,k*11+8,none⟩=some (.int .u64 c5_)∧W.cell? ⟨gB,k*11+9,none⟩=some (.int .u64 c6)∧W.cell? ⟨gB,k*11+10,none⟩=some (.int .u64 c7)) (by kernel_rfl) ?_ (fun hHeld => ?_)
  ·(rw[hW0];exact s0)
  rw[hW0];refine zht 0 ?_;refine zht 1 ?_;refine zht 2 ?_;refine zht 3 ?_;refine zht 5 ?_;refine zht 8 ?_;refine zht 9 ?_;refine zht 10 ?_;refine zht 13 ?_;refine zht 14 ?_;refine zhV 15 (.int .i64 ((k:Int)+1)) (fun w hSw => ?_) ?_
  ·(try dsimp only at hSw)
   go_simp;rw[HW64.out]
  refine zhr2 4 11 (fun K hK => ?_) (fun K hK => ?_)
  ·go_simp
   refine hK.out _ _ (by first | exact s4 | exact s3 | exact s2 | exact s1 | exact s0) fun hHeld => ?_
   clear hK K;(try simp only[Act.put,zy0,zy1,zy2]);refine zht 6 ?_;refine zht 7 ?_;refine zhr 11 (fun K hK => ?_)
   ·go_simp
    refine hK.out _ _ (by first | exact s4 | exact s3 | exact s2 | exact s1 | exact s0) fun hHeld => ?_
    clear hK K;(try simp only[Act.put,zy0,zy1,zy2]);refine zhr 12 (fun K hK => ?_)
    ·go_simp
     refine (ClnJ_any (some ⟨gB,0,none⟩) d k0.jobs W0 (HB0.out.sr.2) lb).mono ?_;rintro e1 w1 ⟨A1,d1,rfl,ho1,hb1⟩;obtain⟨g,rfl,hg1,hg2⟩:∃ g,A1=some ⟨g,0,none⟩∧W0.heap.size≤g∧g<w1.heap.size:=(ho1.own.resolve_left hne).at0 hpos;replace ho1:=Lib.hid (ho1.own.resolve_left hne);have HB1:=Lib.hid (HB0.out.ext hb1);have kD1:=kD0.below_ hb1 kD0.lt;have kT1:=kT0.below_ hb1 kT0.lt;have kU1:=kU0.below_ hb1 kU0.lt;have hs1:=hb1.size;have zD1:=kD1.lt;have s1:=HB1.out.job hX.out;have p1b:=zc kD1 1;go_wp2_with fail
     refine hK.out _ _ (by first | exact s4 | exact s3 | exact s2 | exact s1 | exact s0) fun hHeld => ?_
     clear hK K;(try simp only[Act.put,zy0,zy1,zy2]);refine zhr 16 (fun K hK => ?_)
     ·go_simp
      refine (DelJ_any g d1 W0.heap.size k0.jobs k w1 ho1.out hk lb).mono ?_;rintro e2 w2 ⟨rfl,ho2,hg,hsz⟩;replace ho2:=Lib.hid ho2;have neD:D≠g:=by omega
      have neB:gB≠g:=by omega
      have HB2:=Lib.hid (HB1.out.same (hg.block gB (by omega) (by simpa using neB)));have kD2:=kD1.kept hg (by simpa using neD);have kT2:=kT1.kept hg (by simp;omega);have kU2:=kU1.kept hg (by simp;omega);have zD2:=kD2.lt;have s2:=HB2.out.job hX.out;have p1c:=zc kD2 1;have B2:Below w.heap.size w w2:=below_grown (B0.trans (hb1.mono B0.size)) hg (by omega);obtain⟨ub0,ub1,ub2,ub3,ub4,ub5,ub6,ub7,ub8,ub9,ub10⟩:=zc11 kU2;obtain⟨uc0,uc1,uc2,uc3,uc4,uc5,uc6,uc7,uc8,uc9,uc10,-⟩:=zf kU2;have zU2:=kU2.lt;go_wp2_with fail
      refine hK.out _ _ (by first | exact s4 | exact s3 | exact s2 | exact s1 | exact s0) fun hHeld => ?_
      clear hK K;(try simp only[Act.put,zy0,zy1,zy2]);refine zhr 17 (fun K hK => ?_)
      ·go_simp
       obtain⟨w3,hw3⟩:∃ W,setN w2 (w.heap.size+1) 0 (zkj jw js jf c0 c1_ c2_ c3 c4 c5_ c6 c7)=W:=⟨_,rfl⟩;rw[zs11 hw3];have hg3:w2.grownBy w3 (some (w.heap.size+1)):=by rw[←hw3];exact grown_setN _ _ _ _
       have kU3:=zsw hw3 kU2;clear hw3 ub0 uc0 ub1 uc1 ub2 uc2 ub3 uc3 ub4 uc4 ub5 uc5 ub6 uc6 ub7 uc7 ub8 uc8 ub9 uc9 ub10 uc10;have kD3:=kD2.kept hg3 (by simp;omega);have kT3:=kT2.kept hg3 (by simp);have HB3:=Lib.hid (HB2.out.same (hg3.block gB (by omega) (by simp;omega)));have ho3:=Lib.hid (ho2.out.same (hg3.block g (by omega) (by simp;omega)));have s3:=HB3.out.job hX.out;have B3:Below w.heap.size w w3:=below_grown B2 hg3 (by omega);have zD3:=kD3.lt;have p1d:=zc kD3 1;have f1d:=kD3.frozen_ 1;have hs3:=hg3.size
       refine hK.out _ _ (by first | exact s4 | exact s3 | exact s2 | exact s1 | exact s0) fun hHeld => ?_
       clear hK K;(try simp only[Act.put,zy0,zy1,zy2]);refine zht 18 ?_;refine zht 19 ?_;refine zhr 20 (fun K hK => ?_)
       ·go_simp
        obtain⟨w4,hw4⟩:∃ W,World.setCell w3 ⟨D,1,none⟩ (.slice (some ⟨g,0,none⟩) (k0.jobs.length - 1) d1)=W:=⟨_,rfl⟩;rw[hw4];have hg4:w3.grownBy w4 (some D):=by rw[←hw4];exact grown_set (grown_refl _ _) 1 _
        have kD4:Blk w4 D 31 #[.slice (some ⟨gA,0,none⟩) k0.cells.length c,.slice (some ⟨g,0,none⟩) (k0.jobs.length - 1) d1,.int .i64 k0.room]:=by rw[←hw4];exact Blk.set_ kD3 1 _
        clear hw4 p1d f1d;have HB4:=Lib.hid (HB3.out.same (hg4.block gB (by omega) (by simpa using neDB.symm)));have s4:=HB4.out.job hX.out
        refine hK.out _ _ (by first | exact s4 | exact s3 | exact s2 | exact s1 | exact s0) fun hHeld => ?_
        clear hK K;(try simp only[Act.put,zy0,zy1,zy2]);refine wpAnyH_done (by kernel_rfl) ?_ _;go_wp2_with fail
        go_meet
        refine⟨g,d1,kT3.kept hg4 (by simp;omega),kU3.kept hg4 (by simp;omega),kD4,?_,(ho3.out.same (hg4.block g (by omega) (by simpa using neD.symm))).base_ (by omega),?_⟩
        ·exact HO.out.keptB4 B3 hlt kD hg4
        ·exact below_grownB (B3.mono hbase) hg4 hbD hbase
  ·go_simp
   refine hK.out _ _ (by first | exact s4 | exact s3 | exact s2 | exact s1 | exact s0) fun hHeld => ?_
   clear hK K;(try simp only[Act.put,zy0,zy1,zy2]);refine zhr2 4 12 (fun K hK => ?_) (fun K hK => ?_)
   ·go_simp
    refine hK.out _ _ (by first | exact s4 | exact s3 | exact s2 | exact s1 | exact s0) fun hHeld => ?_
    clear hK K;(try simp only[Act.put,zy0,zy1,zy2]);refine zht 6 ?_;refine zht 7 ?_;refine zhr 12 (fun K hK => ?_)
    ·go_simp
     refine (ClnJ_any (some ⟨gB,0,none⟩) d k0.jobs W0 (HB0.out.sr.2) lb).mono ?_;rintro e1 w1 ⟨A1,d1,rfl,ho1,hb1⟩;obtain⟨g,rfl,hg1,hg2⟩:∃ g,A1=some ⟨g,0,none⟩∧W0.heap.size≤g∧g<w1.heap.size:=(ho1.own.resolve_left hne).at0 hpos;replace ho1:=Lib.hid (ho1.own.resolve_left hne);have HB1:=Lib.hid (HB0.out.ext hb1);have kD1:=kD0.below_ hb1 kD0.lt;have kT1:=kT0.below_ hb1 kT0.lt;have kU1:=kU0.below_ hb1 kU0.lt;have hs1:=hb1.size;have zD1:=kD1.lt;have s1:=HB1.out.job hX.out;have p1b:=zc kD1 1;go_wp2_with fail
     refine hK.out _ _ (by first | exact s4 | exact s3 | exact s2 | exact s1 | exact s0) fun hHeld => ?_
     clear hK K;(try simp only[Act.put,zy0,zy1,zy2]);refine zhr 16 (fun K hK => ?_)
     ·go_simp
      refine (DelJ_any g d1 W0.heap.size k0.jobs k w1 ho1.out hk lb).mono ?_;rintro e2 w2 ⟨rfl,ho2,hg,hsz⟩;replace ho2:=Lib.hid ho2;have neD:D≠g:=by omega
      have neB:gB≠g:=by omega
      have HB2:=Lib.hid (HB1.out.same (hg.block gB (by omega) (by simpa using neB)));have kD2:=kD1.kept hg (by simpa using neD);have kT2:=kT1.kept hg (by simp;omega);have kU2:=kU1.kept hg (by simp;omega);have zD2:=kD2.lt;have s2:=HB2.out.job hX.out;have p1c:=zc kD2 1;have B2:Below w.heap.size w w2:=below_grown (B0.trans (hb1.mono B0.size)) hg (by omega);obtain⟨ub0,ub1,ub2,ub3,ub4,ub5,ub6,ub7,ub8,ub9,ub10⟩:=zc11 kU2;obtain⟨uc0,uc1,uc2,uc3,uc4,uc5,uc6,uc7,uc8,uc9,uc10,-⟩:=zf kU2;have zU2:=kU2.lt;go_wp2_with fail
      refine hK.out _ _ (by first | exact s4 | exact s3 | exact s2 | exact s1 | exact s0) fun hHeld => ?_
      clear hK K;(try simp only[Act.put,zy0,zy1,zy2]);refine zhr 17 (fun K hK => ?_)
      ·go_simp
       obtain⟨w3,hw3⟩:∃ W,setN w2 (w.heap.size+1) 0 (zkj jw js jf c0 c1_ c2_ c3 c4 c5_ c6 c7)=W:=⟨_,rfl⟩;rw[zs11 hw3];have hg3:w2.grownBy w3 (some (w.heap.size+1)):=by rw[←hw3];exact grown_setN _ _ _ _
       have kU3:=zsw hw3 kU2;clear hw3 ub0 uc0 ub1 uc1 ub2 uc2 ub3 uc3 ub4 uc4 ub5 uc5 ub6 uc6 ub7 uc7 ub8 uc8 ub9 uc9 ub10 uc10;have kD3:=kD2.kept hg3 (by simp;omega);have kT3:=kT2.kept hg3 (by simp);have HB3:=Lib.hid (HB2.out.same (hg3.block gB (by omega) (by simp;omega)));have ho3:=Lib.hid (ho2.out.same (hg3.block g (by omega) (by simp;omega)));have s3:=HB3.out.job hX.out;have B3:Below w.heap.size w w3:=below_grown B2 hg3 (by omega);have zD3:=kD3.lt;have p1d:=zc kD3 1;have f1d:=kD3.frozen_ 1;have hs3:=hg3.size
       refine hK.out _ _ (by first | exact s4 | exact s3 | exact s2 | exact s1 | exact s0) fun hHeld => ?_
       clear hK K;(try simp only[Act.put,zy0,zy1,zy2]);refine zht 18 ?_;refine zht 19 ?_;refine zhr 20 (fun K hK => ?_)
       ·go_simp
        obtain⟨w4,hw4⟩:∃ W,World.setCell w3 ⟨D,1,none⟩ (.slice (some ⟨g,0,none⟩) (k0.jobs.length - 1) d1)=W:=⟨_,rfl⟩;rw[hw4];have hg4:w3.grownBy w4 (some D):=by rw[←hw4];exact grown_set (grown_refl _ _) 1 _
        have kD4:Blk w4 D 31 #[.slice (some ⟨gA,0,none⟩) k0.cells.length c,.slice (some ⟨g,0,none⟩) (k0.jobs.length - 1) d1,.int .i64 k0.room]:=by rw[←hw4];exact Blk.set_ kD3 1 _
        clear hw4 p1d f1d;have HB4:=Lib.hid (HB3.out.same (hg4.block gB (by omega) (by simpa using neDB.symm)));have s4:=HB4.out.job hX.out
        refine hK.out _ _ (by first | exact s4 | exact s3 | exact s2 | exact s1 | exact s0) fun hHeld => ?_
        clear hK K;(try simp only[Act.put,zy0,zy1,zy2]);refine wpAnyH_done (by kernel_rfl) ?_ _;go_wp2_with fail
        go_meet
        refine⟨g,d1,kT3.kept hg4 (by simp;omega),kU3.kept hg4 (by simp;omega),kD4,?_,(ho3.out.same (hg4.block g (by omega) (by simpa using neD.symm))).base_ (by omega),?_⟩
        ·exact HO.out.keptB4 B3 hlt kD hg4
        ·exact below_grownB (B3.mono hbase) hg4 hbD hbase
   ·go_simp
    refine (ClnJ_any (some ⟨gB,0,none⟩) d k0.jobs W0 (HB0.out.sr.2) lb).mono ?_;rintro e1 w1 ⟨A1,d1,rfl,ho1,hb1⟩;obtain⟨g,rfl,hg1,hg2⟩:∃ g,A1=some ⟨g,0,none⟩∧W0.heap.size≤g∧g<w1.heap.size:=(ho1.own.resolve_left hne).at0 hpos;replace ho1:=Lib.hid (ho1.own.resolve_left hne);have HB1:=Lib.hid (HB0.out.ext hb1);have kD1:=kD0.below_ hb1 kD0.lt;have kT1:=kT0.below_ hb1 kT0.lt;have kU1:=kU0.below_ hb1 kU0.lt;have hs1:=hb1.size;have zD1:=kD1.lt;have s1:=HB1.out.job hX.out;have p1b:=zc kD1 1;go_wp2_with fail
    refine hK.out _ _ (by first | exact s4 | exact s3 | exact s2 | exact s1 | exact s0) fun hHeld => ?_
    clear hK K;(try simp only[Act.put,zy0,zy1,zy2]);refine zhr2 4 16 (fun K hK => ?_) (fun K hK => ?_)
    ·go_simp
     refine hK.out _ _ (by first | exact s4 | exact s3 | exact s2 | exact s1 | exact s0) fun hHeld => ?_
     clear hK K;(try simp only[Act.put,zy0,zy1,zy2]);refine zht 6 ?_;refine zht 7 ?_;refine zhr 16 (fun K hK => ?_)
     ·go_simp
      refine (DelJ_any g d1 W0.heap.size k0.jobs k w1 ho1.out hk lb).mono ?_;rintro e2 w2 ⟨rfl,ho2,hg,hsz⟩;replace ho2:=Lib.hid ho2;have neD:D≠g:=by omega
      have neB:gB≠g:=by omega
      have HB2:=Lib.hid (HB1.out.same (hg.block gB (by omega) (by simpa using neB)));have kD2:=kD1.kept hg (by simpa using neD);have kT2:=kT1.kept hg (by simp;omega);have kU2:=kU1.kept hg (by simp;omega);have zD2:=kD2.lt;have s2:=HB2.out.job hX.out;have p1c:=zc kD2 1;have B2:Below w.heap.size w w2:=below_grown (B0.trans (hb1.mono B0.size)) hg (by omega);obtain⟨ub0,ub1,ub2,ub3,ub4,ub5,ub6,ub7,ub8,ub9,ub10⟩:=zc11 kU2;obtain⟨uc0,uc1,uc2,uc3,uc4,uc5,uc6,uc7,uc8,uc9,uc10,-⟩:=zf kU2;have zU2:=kU2.lt;go_wp2_with fail
      refine hK.out _ _ (by first | exact s4 | exact s3 | exact s2 | exact s1 | exact s0) fun hHeld => ?_
      clear hK K;(try simp only[Act.put,zy0,zy1,zy2]);refine zhr 17 (fun K hK => ?_)
      ·go_simp
       obtain⟨w3,hw3⟩:∃ W,setN w2 (w.heap.size+1) 0 (zkj jw js jf c0 c1_ c2_ c3 c4 c5_ c6 c7)=W:=⟨_,rfl⟩;rw[zs11 hw3];have hg3:w2.grownBy w3 (some (w.heap.size+1)):=by rw[←hw3];exact grown_setN _ _ _ _
       have kU3:=zsw hw3 kU2;clear hw3 ub0 uc0 ub1 uc1 ub2 uc2 ub3 uc3 ub4 uc4 ub5 uc5 ub6 uc6 ub7 uc7 ub8 uc8 ub9 uc9 ub10 uc10;have kD3:=kD2.kept hg3 (by simp;omega);have kT3:=kT2.kept hg3 (by simp);have HB3:=Lib.hid (HB2.out.same (hg3.block gB (by omega) (by simp;omega)));have ho3:=Lib.hid (ho2.out.same (hg3.block g (by omega) (by simp;omega)));have s3:=HB3.out.job hX.out;have B3:Below w.heap.size w w3:=below_grown B2 hg3 (by omega);have zD3:=kD3.lt;have p1d:=zc kD3 1;have f1d:=kD3.frozen_ 1;have hs3:=hg3.size
       refine hK.out _ _ (by first | exact s4 | exact s3 | exact s2 | exact s1 | exact s0) fun hHeld => ?_
       clear hK K;(try simp only[Act.put,zy0,zy1,zy2]);refine zht 18 ?_;refine zht 19 ?_;refine zhr 20 (fun K hK => ?_)
       ·go_simp
        obtain⟨w4,hw4⟩:∃ W,World.setCell w3 ⟨D,1,none⟩ (.slice (some ⟨g,0,none⟩) (k0.jobs.length - 1) d1)=W:=⟨_,rfl⟩;rw[hw4];have hg4:w3.grownBy w4 (some D):=by rw[←hw4];exact grown_set (grown_refl _ _) 1 _
        have kD4:Blk w4 D 31 #[.slice (some ⟨gA,0,none⟩) k0.cells.length c,.slice (some ⟨g,0,none⟩) (k0.jobs.length - 1) d1,.int .i64 k0.room]:=by rw[←hw4];exact Blk.set_ kD3 1 _
        clear hw4 p1d f1d;have HB4:=Lib.hid (HB3.out.same (hg4.block gB (by omega) (by simpa using neDB.symm)));have s4:=HB4.out.job hX.out
        refine hK.out _ _ (by first | exact s4 | exact s3 | exact s2 | exact s1 | exact s0) fun hHeld => ?_
        clear hK K;(try simp only[Act.put,zy0,zy1,zy2]);refine wpAnyH_done (by kernel_rfl) ?_ _;go_wp2_with fail
        go_meet
        refine⟨g,d1,kT3.kept hg4 (by simp;omega),kU3.kept hg4 (by simp;omega),kD4,?_,(ho3.out.same (hg4.block g (by omega) (by simpa using neD.symm))).base_ (by omega),?_⟩
        ·exact HO.out.keptB4 B3 hlt kD hg4
        ·exact below_grownB (B3.mono hbase) hg4 hbD hbase
    ·go_simp
     refine (DelJ_any g d1 W0.heap.size k0.jobs k w1 ho1.out hk lb).mono ?_;rintro e2 w2 ⟨rfl,ho2,hg,hsz⟩;replace ho2:=Lib.hid ho2;have neD:D≠g:=by omega
     have neB:gB≠g:=by omega
     have HB2:=Lib.hid (HB1.out.same (hg.block gB (by omega) (by simpa using neB)));have kD2:=kD1.kept hg (by simpa using neD);have kT2:=kT1.kept hg (by simp;omega);have kU2:=kU1.kept hg (by simp;omega);have zD2:=kD2.lt;have s2:=HB2.out.job hX.out;have p1c:=zc kD2 1;have B2:Below w.heap.size w w2:=below_grown (B0.trans (hb1.mono B0.size)) hg (by omega);obtain⟨ub0,ub1,ub2,ub3,ub4,ub5,ub6,ub7,ub8,ub9,ub10⟩:=zc11 kU2;obtain⟨uc0,uc1,uc2,uc3,uc4,uc5,uc6,uc7,uc8,uc9,uc10,-⟩:=zf kU2;have zU2:=kU2.lt;go_wp2_with fail
     refine hK.out _ _ (by first | exact s4 | exact s3 | exact s2 | exact s1 | exact s0) fun hHeld => ?_
     clear hK K;(try simp only[Act.put,zy0,zy1,zy2]);refine zhr 4 (fun K hK => ?_)
     ·go_simp
      refine hK.out _ _ (by first | exact s4 | exact s3 | exact s2 | exact s1 | exact s0) fun hHeld => ?_
      clear hK K;(try simp only[Act.put,zy0,zy1,zy2]);refine zht 6 ?_;refine zht 7 ?_;refine zhr 17 (fun K hK => ?_)
      ·go_simp
       obtain⟨w3,hw3⟩:∃ W,setN w2 (w.heap.size+1) 0 (zkj jw js jf c0 c1_ c2_ c3 c4 c5_ c6 c7)=W:=⟨_,rfl⟩;rw[zs11 hw3];have hg3:w2.grownBy w3 (some (w.heap.size+1)):=by rw[←hw3];exact grown_setN _ _ _ _
       have kU3:=zsw hw3 kU2;clear hw3 ub0 uc0 ub1 uc1 ub2 uc2 ub3 uc3 ub4 uc4 ub5 uc5 ub6 uc6 ub7 uc7 ub8 uc8 ub9 uc9 ub10 uc10;have kD3:=kD2.kept hg3 (by simp;omega);have kT3:=kT2.kept hg3 (by simp);have HB3:=Lib.hid (HB2.out.same (hg3.block gB (by omega) (by simp;omega)));have ho3:=Lib.hid (ho2.out.same (hg3.block g (by omega) (by simp;omega)));have s3:=HB3.out.job hX.out;have B3:Below w.heap.size w w3:=below_grown B2 hg3 (by omega);have zD3:=kD3.lt;have p1d:=zc kD3 1;have f1d:=kD3.frozen_ 1;have hs3:=hg3.size
       refine hK.out _ _ (by first | exact s4 | exact s3 | exact s2 | exact s1 | exact s0) fun hHeld => ?_
       clear hK K;(try simp only[Act.put,zy0,zy1,zy2]);refine zht 18 ?_;refine zht 19 ?_;refine zhr 20 (fun K hK => ?_)
       ·go_simp
        obtain⟨w4,hw4⟩:∃ W,World.setCell w3 ⟨D,1,none⟩ (.slice (some ⟨g,0,none⟩) (k0.jobs.length - 1) d1)=W:=⟨_,rfl⟩;rw[hw4];have hg4:w3.grownBy w4 (some D):=by rw[←hw4];exact grown_set (grown_refl _ _) 1 _
        have kD4:Blk w4 D 31 #[.slice (some ⟨gA,0,none⟩) k0.cells.length c,.slice (some ⟨g,0,none⟩) (k0.jobs.length - 1) d1,.int .i64 k0.room]:=by rw[←hw4];exact Blk.set_ kD3 1 _
        clear hw4 p1d f1d;have HB4:=Lib.hid (HB3.out.same (hg4.block gB (by omega) (by simpa using neDB.symm)));have s4:=HB4.out.job hX.out
        refine hK.out _ _ (by first | exact s4 | exact s3 | exact s2 | exact s1 | exact s0) fun hHeld => ?_
        clear hK K;(try simp only[Act.put,zy0,zy1,zy2]);refine wpAnyH_done (by kernel_rfl) ?_ _;go_wp2_with fail
        go_meet
        refine⟨g,d1,kT3.kept hg4 (by simp;omega),kU3.kept hg4 (by simp;omega),kD4,?_,(ho3.out.same (hg4.block g (by omega) (by simpa using neD.symm))).base_ (by omega),?_⟩
        ·exact HO.out.keptB4 B3 hlt kD hg4
        ·exact below_grownB (B3.mono hbase) hg4 hbD hbase
 case rest=>
  obtain⟨g,d1,kT6,kU6,kD6,ho6,hj6,B6⟩:=hcut;have HA6:Hid (OwnR ctE wc base (.slice (some ⟨gA,0,none⟩) k0.cells.length c) k0.cells):=ho6.own.resolve_left hnec;have HJ6:=Lib.hid hj6;obtain⟨hj1,hj2⟩:=hj6.block;have zD6:=kD6.lt;have zT6:=kT6.lt;have zU6:=kU6.lt;clear ho6 hj6 kT kU BX hXs;have ub0:=zc kU6 0
  cases jw with
  | true=>
   have HR:Hid (R=(⟨k0.cells.set js ⟨c0,c1_,c2_,c3,c4,c5_,c6,c7⟩,k0.jobs.eraseIdx k,k0.room⟩,⟨true,js,jf,⟨c0,c1_,c2_,c3,c4,c5_,c6,c7⟩⟩)):=by show _=_;rw[←HRR.out];simp[dkR]
   clear HRR;go_wp2_with fail;refine zrg [0,0,0,1,0,1,0,1,0,3] [[],[],[],[],[],[],[],[],[],[]] [.is ?_,.is ?_,.is ?_,.kn ?_,.is ?_,.kn ?_,.is ?_,.kn ?_,.is ?_,.late] [9] (lts_is (lts_is (lts_is (lts_kn (lts_is (lts_kn (lts_is (lts_kn (lts_is (lts_late lts_nil)))))))))) (fun W0 hb0 hz0 => ?_)
   rotate_left 9
   have bW0:Below wc.heap.size wc W0:=hb0;have kDW:=kD6.below_ bW0 zD6;have kUW:=kU6.below_ bW0 zU6;have kTW:=kT6.below_ bW0 zT6;have zDW:=kDW.lt;have zUW:=kUW.lt;have HAW:=Lib.hid (HA6.out.ext bW0);have HJW:=Lib.hid (HJ6.out.ext bW0);have zAW:gA<W0.heap.size:=by have:=bW0.size;have:=B6.size;omega
   have p0:=zc kDW 0;obtain⟨ub0_,ub1_,ub2_,ub3_,ub4_,ub5_,ub6_,ub7_,ub8_,ub9_,ub10_⟩:=zc11 kUW;have ac:=HAW.out.ct HXC.out;have a0:=ac.1;have a1:=ac.2.1;have a2:=ac.2.2.1;have a3:=ac.2.2.2.1;have a4:=ac.2.2.2.2.1;have a5:=ac.2.2.2.2.2.1;have a6:=ac.2.2.2.2.2.2.1;have a7:=ac.2.2.2.2.2.2.2;clear ac;refine zqp ?_;refine zqp ?_;refine zqp ?_;refine zqT (fun w hbw hd => ?_) ?_
   ·have q0:=cell_keep hbw p0 zDW
    exact zgs
   refine zqp ?_;refine zqT (fun w hbw hd => ?_) ?_
   ·have v1:=cell_keep hbw ub1_ zUW
    exact zgs
   refine zqp ?_;refine zqT (fun w hbw hd => ?_) ?_
   ·have v3:=cell_keep hbw ub3_ zUW
    have v4:=cell_keep hbw ub4_ zUW;have v5:=cell_keep hbw ub5_ zUW;have v6:=cell_keep hbw ub6_ zUW;have v7:=cell_keep hbw ub7_ zUW;have v8:=cell_keep hbw ub8_ zUW;have v9:=cell_keep hbw ub9_ zUW;have v10:=cell_keep hbw ub10_ zUW;exact zgs
   refine zqp ?_;refine zql ?_;refine chn_end (fun wz lo hi hbz hd hR => ?_);have BZ:=zbt bW0 hbz;have kDZ:=kDW.below_ hbz zDW;have kUZ:=kUW.below_ hbz zUW;have kTZ:=kTW.below_ hbz kTW.lt;have HAZ:=Lib.hid (HAW.out.ext hbz);have HJZ:=Lib.hid (HJW.out.ext hbz);have zAZ:gA<wz.heap.size:=Nat.lt_of_lt_of_le zAW hbz.size;have az:=HAZ.out.ct HXC.out;have b0:=az.1;have b1:=az.2.1;have b2:=az.2.2.1;have b3:=az.2.2.2.1;have b4:=az.2.2.2.2.1;have b5:=az.2.2.2.2.2.1;have b6:=az.2.2.2.2.2.2.1;have b7:=az.2.2.2.2.2.2.2;obtain⟨curA,kAZ⟩:=HAZ.out.blk0 hsl;have bf0:=kAZ.frozen_ (js*8);have bf1:=kAZ.frozen_ (js*8+1);have bf2:=kAZ.frozen_ (js*8+2);have bf3:=kAZ.frozen_ (js*8+3);have bf4:=kAZ.frozen_ (js*8+4);have bf5:=kAZ.frozen_ (js*8+5);have bf6:=kAZ.frozen_ (js*8+6);have bf7:=kAZ.frozen_ (js*8+7);clear hd hR az p0 ub0_ ub1_ ub2_ ub3_ ub4_ ub5_ ub6_ ub7_ ub8_ ub9_ ub10_ a0 a1 a2 a3 a4 a5 a6 a7;refine late_one (by simp only[zy5,zy6,zy7];rfl) (fun K Q' hK => ?_);go_simp;refine hK.out _ ?_;clear hK K Q';obtain⟨W5,hW5⟩:∃ W,setC8 wz gA (js*8) ⟨c0,c1_,c2_,c3,c4,c5_,c6,c7⟩=W:=⟨_,rfl⟩;rw[show (World.setCell (World.setCell (World.setCell (World.setCell (World.setCell (World.setCell (World.setCell (World.setCell wz ⟨gA,js*8,none⟩ (.int .u64 c0)) ⟨gA,js*8+1,none⟩ (.int .u64 c1_)) ⟨gA,js*8+2,none⟩ (.int .u64 c2_)) ⟨gA,js*8+3,none⟩ (.int .u64 c3)) ⟨gA,js*8+4,none⟩ (.int .u64 c4)) ⟨gA,js*8+5,none⟩ (.int .u64 c5_)) ⟨gA,js*8+6,none⟩ (.int .u64 c6)) ⟨gA,js*8+7,none⟩ (.int .u64 c7))=W5 from hW5];have HA5:Hid (OwnR ctE W5 base (.slice (some ⟨gA,0,none⟩) k0.cells.length c) (k0.cells.set js ⟨c0,c1_,c2_,c3,c4,c5_,c6,c7⟩)):=by show OwnR _ _ _ _ _;rw[←hW5];exact HAZ.out.setC hsl ⟨c0,c1_,c2_,c3,c4,c5_,c6,c7⟩ rfl
   have hg5:wz.grownBy W5 (some gA):=by rw[←hW5];exact grown_setC8 _ _ _ _
   clear hW5 kAZ HAZ b0 bf0 b1 bf1 b2 bf2 b3 bf3 b4 bf4 b5 bf5 b6 bf6 b7 bf7;have hs5:=hg5.size;have hsZ:=BZ.size;have hs6:=B6.size;have kD5:=kDZ.kept hg5 (by simpa using neDA);have kT5:=kTZ.kept hg5 (by simp;omega);have kU5:=kUZ.kept hg5 (by simp;omega);have HJ5:=Lib.hid (HJZ.out.same (hg5.block g (by omega) (by simp;omega)));have B5:Below base w W5:=below_grownB (B6.trans (BZ.mono (by omega))) hg5 hgA hbase;have zD5:=kD5.lt;have zT5:=kT5.lt;obtain⟨ub0,ub1,ub2,ub3,ub4,ub5,ub6,ub7,ub8,ub9,ub10⟩:=zc11 kU5;obtain⟨t0,t1,t2,t3,t4,t5,t6,t7,t8,t9,t10⟩:=zc11 kT5;obtain⟨tf0,tf1,tf2,tf3,tf4,tf5,tf6,tf7,tf8,tf9,tf10,-⟩:=zf kT5;go_wp2_with fail;obtain⟨W,hW⟩:∃ W,setN W5 (w.heap.size) 0 (zkj true (js:Nat) jf c0 c1_ c2_ c3 c4 c5_ c6 c7)=W:=⟨_,rfl⟩;have hWn:=zs11 hW;have kW:=zsw hW kT5;have bWb:=zbw hW B5 hbase;have hgW:W5.grownBy W (some w.heap.size):=by rw[←hW];exact grown_setN _ _ _ _
   rw[hWn];clear hWn hW t0 tf0 ub0 t1 tf1 ub1 t2 tf2 ub2 t3 tf3 ub3 t4 tf4 ub4 t5 tf5 ub5 t6 tf6 ub6 t7 tf7 ub7 t8 tf8 ub8 t9 tf9 ub9 t10 tf10 ub10;refine bodyPost_ret (by simp[results,Tryz.results175,go_sem,zc11 kW] <;> rfl) rfl ?_;have hlen:(k0.jobs.eraseIdx k).length=k0.jobs.length - 1:=List.length_eraseIdx_of_lt hk;rw[HR.out];refine⟨some ⟨g,0,none⟩,d1,rfl,?_,?_,?_,bWb⟩
   ·rw[hlen];exact kD5.kept hgW (by simp;omega)
   ·exact OwnE.of_own (HA5.out.same (hgW.block gA (by omega) (by simp;omega))) (by simp)
   ·exact OwnE.of_own ((HJ5.out.same (hgW.block g (by omega) (by simp;omega))).base_ (by omega)) (by dsimp only;omega)
  | false=>
   have HR:Hid (R=(⟨k0.cells,k0.jobs.eraseIdx k,k0.room⟩,⟨false,js,jf,⟨x0,x1_,x2_,x3,x4,x5_,x6,x7⟩⟩)):=by show _=_;rw[←HRR.out];simp[dkR,HXC.out]
   clear HRR;go_wp2_with fail;refine zrg [0,0,0,1,0,1,0,1,0,3] [[],[],[],[],[],[],[],[],[],[]] [.is ?_,.is ?_,.is ?_,.kn ?_,.is ?_,.kn ?_,.is ?_,.kn ?_,.is ?_,.late] [9] (lts_is (lts_is (lts_is (lts_kn (lts_is (lts_kn (lts_is (lts_kn (lts_is (lts_late lts_nil)))))))))) (fun W0 hb0 hz0 => ?_)
   rotate_left 9
   have bW0:Below wc.heap.size wc W0:=hb0;have kDW:=kD6.below_ bW0 zD6;have kUW:=kU6.below_ bW0 zU6;have kTW:=kT6.below_ bW0 zT6;have zDW:=kDW.lt;have zUW:=kUW.lt;have HAW:=Lib.hid (HA6.out.ext bW0);have HJW:=Lib.hid (HJ6.out.ext bW0);have zAW:gA<W0.heap.size:=by have:=bW0.size;have:=B6.size;omega
   have p0:=zc kDW 0;obtain⟨ub0_,ub1_,ub2_,ub3_,ub4_,ub5_,ub6_,ub7_,ub8_,ub9_,ub10_⟩:=zc11 kUW;have ac:=HAW.out.ct HXC.out;have a0:=ac.1;have a1:=ac.2.1;have a2:=ac.2.2.1;have a3:=ac.2.2.2.1;have a4:=ac.2.2.2.2.1;have a5:=ac.2.2.2.2.2.1;have a6:=ac.2.2.2.2.2.2.1;have a7:=ac.2.2.2.2.2.2.2;clear ac;refine zqp ?_;refine zqp ?_;refine zqp ?_;refine zqT (fun w hbw hd => ?_) ?_
   ·have q0:=cell_keep hbw p0 zDW
    exact zgs
   refine zqp ?_;refine zqT (fun w hbw hd => ?_) ?_
   ·have v1:=cell_keep hbw ub1_ zUW
    exact zgs
   refine zqp ?_;refine zqT (fun w hbw hd => ?_) ?_
   ·have y0:=cell_keep hbw a0 zAW
    have y1:=cell_keep hbw a1 zAW;have y2:=cell_keep hbw a2 zAW;have y3:=cell_keep hbw a3 zAW;have y4:=cell_keep hbw a4 zAW;have y5:=cell_keep hbw a5 zAW;have y6:=cell_keep hbw a6 zAW;have y7:=cell_keep hbw a7 zAW;exact zgs
   refine zqp ?_;refine zql ?_;refine chn_end (fun wz lo hi hbz hd hR => ?_);have BZ:=zbt bW0 hbz;have kDZ:=kDW.below_ hbz zDW;have kUZ:=kUW.below_ hbz zUW;have kTZ:=kTW.below_ hbz kTW.lt;have HAZ:=Lib.hid (HAW.out.ext hbz);have HJZ:=Lib.hid (HJW.out.ext hbz);have zAZ:gA<wz.heap.size:=Nat.lt_of_lt_of_le zAW hbz.size;clear hd hR p0 ub0_ ub1_ ub2_ ub3_ ub4_ ub5_ ub6_ ub7_ ub8_ ub9_ ub10_ a0 a1 a2 a3 a4 a5 a6 a7;obtain⟨e0,e1,e2,e3,e4,e5,e6,e7,e8,e9,e10⟩:=zc11 kUZ;obtain⟨ef0,ef1,ef2,ef3,ef4,ef5,ef6,ef7,ef8,ef9,ef10,-⟩:=zf kUZ;have zUZ:=kUZ.lt;refine late_one (by simp only[zy5,zy6,zy7];rfl) (fun K Q' hK => ?_);go_simp;refine hK.out _ ?_;clear hK K Q';obtain⟨W5,hW5⟩:∃ W,setN wz (w.heap.size+1) 3 (zkk x0 x1_ x2_ x3 x4 x5_ x6 x7)=W:=⟨_,rfl⟩;rw[show (World.setCell (World.setCell (World.setCell (World.setCell (World.setCell (World.setCell (World.setCell (World.setCell wz ⟨w.heap.size+1,3,none⟩ (.int .u64 x0)) ⟨w.heap.size+1,4,none⟩ (.int .u64 x1_)) ⟨w.heap.size+1,5,none⟩ (.int .u64 x2_)) ⟨w.heap.size+1,6,none⟩ (.int .u64 x3)) ⟨w.heap.size+1,7,none⟩ (.int .u64 x4)) ⟨w.heap.size+1,8,none⟩ (.int .u64 x5_)) ⟨w.heap.size+1,9,none⟩ (.int .u64 x6)) ⟨w.heap.size+1,10,none⟩ (.int .u64 x7))=W5 from hW5];have kU5:Blk W5 (w.heap.size+1) 115 (zkj false (js:Nat) jf x0 x1_ x2_ x3 x4 x5_ x6 x7).toArray:=by rw[←hW5];exact blk_setO kUZ (zkk x0 x1_ x2_ x3 x4 x5_ x6 x7) rfl
   have hg5:wz.grownBy W5 (some (w.heap.size+1)):=by rw[←hW5];exact grown_setN _ _ _ _
   clear hW5 e0 ef0 e1 ef1 e2 ef2 e3 ef3 e4 ef4 e5 ef5 e6 ef6 e7 ef7 e8 ef8 e9 ef9 e10 ef10;have hs5:=hg5.size;have hsZ:=BZ.size;have hs6:=B6.size;have kD5:=kDZ.kept hg5 (by simp;omega);have kT5:=kTZ.kept hg5 (by simp);have HA5:=Lib.hid (HAZ.out.same (hg5.block gA (by omega) (by simp;omega)));have HJ5:=Lib.hid (HJZ.out.same (hg5.block g (by omega) (by simp;omega)));have B5:Below base w W5:=below_grownB (B6.trans (BZ.mono (by omega))) hg5 (by omega) hbase;have zD5:=kD5.lt;have zT5:=kT5.lt;obtain⟨ub0,ub1,ub2,ub3,ub4,ub5,ub6,ub7,ub8,ub9,ub10⟩:=zc11 kU5;obtain⟨t0,t1,t2,t3,t4,t5,t6,t7,t8,t9,t10⟩:=zc11 kT5;obtain⟨tf0,tf1,tf2,tf3,tf4,tf5,tf6,tf7,tf8,tf9,tf10,-⟩:=zf kT5;go_wp2_with fail;obtain⟨W,hW⟩:∃ W,setN W5 (w.heap.size) 0 (zkj false (js:Nat) jf x0 x1_ x2_ x3 x4 x5_ x6 x7)=W:=⟨_,rfl⟩;have hWn:=zs11 hW;have kW:=zsw hW kT5;have bWb:=zbw hW B5 hbase;have hgW:W5.grownBy W (some w.heap.size):=by rw[←hW];exact grown_setN _ _ _ _
   rw[hWn];clear hWn hW t0 tf0 ub0 t1 tf1 ub1 t2 tf2 ub2 t3 tf3 ub3 t4 tf4 ub4 t5 tf5 ub5 t6 tf6 ub6 t7 tf7 ub7 t8 tf8 ub8 t9 tf9 ub9 t10 tf10 ub10;refine bodyPost_ret (by simp[results,Tryz.results175,go_sem,zc11 kW] <;> rfl) rfl ?_;have hlen:(k0.jobs.eraseIdx k).length=k0.jobs.length - 1:=List.length_eraseIdx_of_lt hk;rw[HR.out];refine⟨some ⟨g,0,none⟩,d1,rfl,?_,?_,?_,bWb⟩
   ·rw[hlen];exact kD5.kept hgW (by simp;omega)
   ·exact OwnE.of_own (HA5.out.same (hgW.block gA (by omega) (by simp;omega))) (by simp)
   ·exact OwnE.of_own ((HJ5.out.same (hgW.block g (by omega) (by simp;omega))).base_ (by omega)) (by dsimp only;omega)
end Go.Proofs.YthijbipidbjpfaaGreatDoor
