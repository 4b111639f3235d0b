import Derived.Test.YthijbipidbjpfaaGreatDoorZR16
import Derived.Test.YthijbipidbjpfaaGreatDoorZR28
import Derived.ChangeSame
import Derived.Deep.Strs
set_option linter.unusedSimpArgs false
set_option linter.unusedVariables false
set_option maxRecDepth 100000
set_option maxHeartbeats 8000000
namespace Go.Proofs.YthijbipidbjpfaaGreatDoor
open Go.RowKit Go.Maps
open Go.ChangeShapes Go.WideShapes Go.ChangeAt Go.Joins Go.Deep
set_option maxRecDepth 100000
section
variable {H : Type} {enc : TypeId × Value → H} {W : World}
theorem cell_of_take {cs:List Value} {o:Nat} {u:Value} {n:Nat} (hn:n = 1) (e:(cs.drop o).take n = [u]):cs[o]? = some u:=by
 have h3:((cs.drop o).take n)[0]? = some u:=by rw [e];rfl
 rw [hn,List.getElem?_take_of_lt (by omega),List.getElem?_drop,Nat.add_zero] at h3;exact h3
theorem cell_in {cs:List Value} {o m i:Nat} {u:Value} (hi:i < m) (h:((cs.drop o).take m)[i]? = some u):cs[o + i]? = some u:=by
 rwa [List.getElem?_take_of_lt hi,List.getElem?_drop] at h
theorem sr_each {α:Type} (E:Elt Tryz.prog α) {a':Addr} {len:Nat} (d:α) (Q:α→Prop) (each:∀ i,i < len→∃ x:α,Q x∧∀ (j:Nat) u,(E.enc x)[j]? = some u→W.cell? (a'.add (i * E.sz + j)) = some u) :
  ∃ l:List α,l.length = len∧SR E W (some a') l∧∀ x ∈ l,Q x:=by
 let X:Nat→α:=fun i => if h:i < len then Classical.choose (each i h) else d
 have hX:∀ i,i < len→Q (X i)∧∀ (j:Nat) u,(E.enc (X i))[j]? = some u→W.cell? (a'.add (i * E.sz + j)) = some u:=by
  intro i hi
  have:X i = Classical.choose (each i hi):=dif_pos hi
  rw [this]
  exact Classical.choose_spec (each i hi)
 refine ⟨(List.range len).map X,by simp,?_,fun x hx => ?_⟩
 ·rcases Nat.eq_zero_or_pos len with h0 | h0
  ·subst h0
   exact SR.nil
  ·obtain ⟨b,off,sp⟩:=a'
   have hpos:=E.pos
   have hu0:(E.enc (X 0))[0]? = some ((E.enc (X 0))[0]'(by rw [E.hlen];exact hpos)):=List.getElem?_eq_getElem _
   have hc0:=(hX 0 h0).2 0 _ hu0
   rw [Nat.zero_mul,Nat.zero_add] at hc0
   cases sp with
   | some s =>
    simp [Addr.add,World.cell?] at hc0
    split at hc0 <;> cases hc0
   | none =>
    have hadd:∀ k,(⟨b,off,none⟩:Addr).add k = ⟨b,off + k,none⟩:=fun k => by by_cases h:k = 0 <;> simp [Addr.add,h]
    rw [hadd] at hc0
    refine SR.of_at (fun _ => World.block_lt_of_cell? W _ hc0) (fun i x hi j u hu => ?_)
    obtain ⟨hi',rfl⟩:=List.getElem?_eq_some_iff.1 hi
    simp at hi'
    simp only [List.getElem_map,List.getElem_range] at hu
    have:=(hX i hi').2 j u hu
    rw [hadd] at this
    rw [Nat.add_assoc]
    exact this
 ·obtain ⟨i,hi,rfl⟩:=List.mem_map.1 hx
  exact (hX i (List.mem_range.1 hi)).1
theorem open_rowE {α:Type} (E:Elt Tryz.prog α) (ce:(Tryz.prog).cellsOf E.e = E.sz) (d:α) (Q:α→Prop)
  (hel:∀ (cs':List Value) (k:Nat) x,DataW.trod enc Tryz.prog W 0 (fun _ => true) true k E.e cs' = some x→∃ y,Q y∧∀ (j:Nat) u,(E.enc y)[j]? = some u→cs'[j]? = some u)
  {fuel:Nat} {cs:List Value} {x:DataW H × List MemPlace} (h:DataW.trod enc Tryz.prog W 0 (fun _ => true) true fuel E.s cs = some x):∃ A c l,cs = [.slice A l.length c]∧SR E W A l∧∀ y ∈ l,Q y:=by
 rcases open_slice E.hs h with ⟨rfl,_⟩ | ⟨a',len',cap',m,n,D,Pl,rfl,_,hl,hm,hmm,_,hx⟩
 ·exact ⟨none,0,[],rfl,SR.nil,fun y hy => by cases hy⟩
 ·simp only [if_true] at hmm
  subst hmm
  have each:∀ i,i < len'→∃ x:α,Q x∧∀ (j:Nat) u,(E.enc x)[j]? = some u→W.cell? (a'.add (i * E.sz + j)) = some u:=by
   intro i hi
   obtain ⟨cs',h1,h2⟩:=hx i (by omega)
   rw [ce] at h1
   obtain ⟨_,hlen,hcell⟩:=World.cells?_some h1
   obtain ⟨y,hq,hy⟩:=hel cs' _ _ h2
   refine ⟨y,hq,fun j u hu => ?_⟩
   have hj:j < E.sz:=by
    have:=(List.getElem?_eq_some_iff.1 hu).1
    rwa [E.hlen] at this
   have:=hcell j hj
   rw [add_add] at this
   rw [this]
   exact hy j u hu
  obtain ⟨l,h1,h2,h3⟩:=sr_each E d Q each
  exact ⟨some a',_,l,by rw [h1],h2,h3⟩
variable {fuel : Nat} {cs : List Value} {x : DataW H × List MemPlace}
theorem ci_:(Tryz.prog).cellsOf 3 = 1:=by kernel_rfl
theorem cb_:(Tryz.prog).cellsOf 4 = 1:=by kernel_rfl
theorem open_rI (h:DataW.trod enc Tryz.prog W 0 (fun _ => true) true fuel 22 cs = some x):∃ A c l,cs = [.slice A l.length c]∧SR intE W A l:=by
 obtain ⟨A,c,l,h1,h2,_⟩:=open_rowE intE (by kernel_rfl) 0 (fun _ => True) (fun cs' k x h => by
  obtain ⟨a,e0,_,_⟩:=DataW.trod_int Tryz.underlying3 h
  exact ⟨a,trivial,fun j u hu => by rw [e0];exact hu⟩) h
 exact ⟨A,c,l,h1,h2⟩
theorem open_rB (h:DataW.trod enc Tryz.prog W 0 (fun _ => true) true fuel 23 cs = some x):∃ A c l,cs = [.slice A l.length c]∧SR boolE W A l:=by
 obtain ⟨A,c,l,h1,h2,_⟩:=open_rowE boolE (by kernel_rfl) false (fun _ => True) (fun cs' k x h => by
  obtain ⟨a,e0,_⟩:=DataW.trod_bool Tryz.underlying4 h
  exact ⟨a,trivial,fun j u hu => by rw [e0];exact hu⟩) h
 exact ⟨A,c,l,h1,h2⟩
theorem three_ {cs':List Value} {a b c:Value} (q0:cs'[0]? = some a) (q1:cs'[1]? = some b) (q2:cs'[2]? = some c):∀ (j:Nat) u,([a,b,c]:List Value)[j]? = some u→cs'[j]? = some u:=fun j u hu => by
 match j,hu with
 | 0,hu => rw [q0];exact hu
 | 1,hu => rw [q1];exact hu
 | 2,hu => rw [q2];exact hu
 | j + 3,hu => simp at hu
theorem open_rW (h:DataW.trod enc Tryz.prog W 0 (fun _ => true) true fuel 26 cs = some x):∃ A c l,cs = [.slice A l.length c]∧SR wrE W A l:=by
 obtain ⟨A,c,l,h1,h2,_⟩:=open_rowE wrE (by kernel_rfl) (0,0,0) (fun _ => True) (fun cs' k x h => by
  obtain ⟨y0,y1,y2,n,_,_,g0,g1,g2⟩:=trod_struct3 Tryz.underlying106 h
  obtain ⟨a,e0,_,_⟩:=DataW.trod_int Tryz.underlying3 g0
  obtain ⟨b,e1,_,_⟩:=DataW.trod_int Tryz.underlying3 g1
  obtain ⟨c,e2,_,_⟩:=DataW.trod_int Tryz.underlying3 g2
  exact ⟨(a,b,c),trivial,three_ (cell_of_take ci_ e0) (cell_of_take ci_ e1) (cell_of_take ci_ e2)⟩) h
 exact ⟨A,c,l,h1,h2⟩
theorem open_rR (h:DataW.trod enc Tryz.prog W 0 (fun _ => true) true fuel 27 cs = some x):∃ A c l,cs = [.slice A l.length c]∧SR rdE W A l∧∀ v ∈ l,(Lit.int .i64 v.2.2).wf = true:=
 open_rowE rdE (by kernel_rfl) (0,0,0) (fun v => (Lit.int .i64 v.2.2).wf = true) (fun cs' k x h => by
  obtain ⟨y0,y1,y2,n,_,_,g0,g1,g2⟩:=trod_struct3 Tryz.underlying100 h
  obtain ⟨a,e0,_,_⟩:=DataW.trod_int Tryz.underlying3 g0
  obtain ⟨b,e1,_,_⟩:=DataW.trod_int Tryz.underlying3 g1
  obtain ⟨c,e2,_,wf⟩:=DataW.trod_int Tryz.underlying3 g2
  exact ⟨(a,b,c),wf,three_ (cell_of_take ci_ e0) (cell_of_take ci_ e1) (cell_of_take ci_ e2)⟩) h
theorem open_ct (h:DataW.trod enc Tryz.prog W 0 (fun _ => true) true fuel 38 cs = some x):∃ c:Ct,∀ (j:Nat) u,(ctC c)[j]? = some u→cs[j]? = some u:=by
 have cu:(Tryz.prog).cellsOf 36 = 1:=by kernel_rfl
 obtain ⟨zs,m2,_,_,_,hz,hel⟩:=DataW.trod_array Tryz.underlying38 h;rw [cu] at hel
 have q2:∀ j,j < 8→∃ z:Int,cs[j]? = some (.int .u64 z):=fun j hj => by
  have h3:=hel j hj;rw [List.getElem?_eq_getElem (by omega)] at h3;obtain ⟨z,e,_,_⟩:=DataW.trod_int Tryz.underlying36 h3;have h4:=cell_of_take rfl e;rw [Nat.mul_one] at h4;exact ⟨z,h4⟩
 obtain ⟨z0,e0⟩:=q2 0 (by decide);obtain ⟨z1,e1⟩:=q2 1 (by decide);obtain ⟨z2,e2⟩:=q2 2 (by decide);obtain ⟨z3,e3⟩:=q2 3 (by decide);obtain ⟨z4,e4⟩:=q2 4 (by decide);obtain ⟨z5,e5⟩:=q2 5 (by decide);obtain ⟨z6,e6⟩:=q2 6 (by decide);obtain ⟨z7,e7⟩:=q2 7 (by decide);refine ⟨⟨z0,z1,z2,z3,z4,z5,z6,z7⟩,fun j u hu => ?_⟩
 match j,hu with
 | 0,hu => rw [e0];exact hu
 | 1,hu => rw [e1];exact hu
 | 2,hu => rw [e2];exact hu
 | 3,hu => rw [e3];exact hu
 | 4,hu => rw [e4];exact hu
 | 5,hu => rw [e5];exact hu
 | 6,hu => rw [e6];exact hu
 | 7,hu => rw [e7];exact hu
 | j + 8,hu => simp [ctC] at hu
theorem open_rC (h:DataW.trod enc Tryz.prog W 0 (fun _ => true) true fuel 28 cs = some x):∃ A c l,cs = [.slice A l.length c]∧SR ctE W A l:=by
 obtain ⟨A,c,l,h1,h2,_⟩:=open_rowE ctE (by kernel_rfl) .zero (fun _ => True) (fun cs' k x h => by
  obtain ⟨c,hc⟩:=open_ct h
  exact ⟨c,trivial,hc⟩) h
 exact ⟨A,c,l,h1,h2⟩
theorem open_rJ (h:DataW.trod enc Tryz.prog W 0 (fun _ => true) true fuel 29 cs = some x):∃ A c l,cs = [.slice A l.length c]∧SR jbE W A l:=by
 have cc:(Tryz.prog).cellsOf 38 = 8:=by kernel_rfl
 obtain ⟨A,c,l,h1,h2,_⟩:=open_rowE jbE (by kernel_rfl) .zero (fun _ => True) (fun cs' k x h => by
  obtain ⟨xs,k,_,_,_,hxl,hfl⟩:=DataW.trod_struct Tryz.underlying115 h
  have hx4:xs.length = 4:=hxl
  have get:∀ j,j < 4→∃ y,xs[j]? = some y:=fun j hj => ⟨_,List.getElem?_eq_getElem (by omega)⟩
  obtain ⟨y0,f0⟩:=get 0 (by decide)
  obtain ⟨y1,f1⟩:=get 1 (by decide)
  obtain ⟨y2,f2⟩:=get 2 (by decide)
  obtain ⟨y3,f3⟩:=get 3 (by decide)
  have g0:DataW.trod enc Tryz.prog W 0 (fun _ => true) true k 4 ((cs'.drop 0).take ((Tryz.prog).cellsOf 4)) = some y0:=(hfl 0 _ rfl).trans f0
  have g1:DataW.trod enc Tryz.prog W 0 (fun _ => true) true k 3 ((cs'.drop 1).take ((Tryz.prog).cellsOf 3)) = some y1:=(hfl 1 _ rfl).trans f1
  have g2:DataW.trod enc Tryz.prog W 0 (fun _ => true) true k 3 ((cs'.drop 2).take ((Tryz.prog).cellsOf 3)) = some y2:=(hfl 2 _ rfl).trans f2
  have g3:DataW.trod enc Tryz.prog W 0 (fun _ => true) true k 38 ((cs'.drop 3).take ((Tryz.prog).cellsOf 38)) = some y3:=(hfl 3 _ rfl).trans f3
  rw [cc] at g3
  obtain ⟨a,e0,_⟩:=DataW.trod_bool Tryz.underlying4 g0
  obtain ⟨b,e1,_,_⟩:=DataW.trod_int Tryz.underlying3 g1
  obtain ⟨d,e2,_,_⟩:=DataW.trod_int Tryz.underlying3 g2
  obtain ⟨c,hc⟩:=open_ct g3
  refine ⟨⟨a,b,d,c⟩,trivial,fun j u hu => ?_⟩
  match j,hu with
  | 0,hu => rw [cell_of_take cb_ e0];exact hu
  | 1,hu => rw [cell_of_take ci_ e1];exact hu
  | 2,hu => rw [cell_of_take ci_ e2];exact hu
  | j + 3,hu =>
   have hu':(ctC c)[j]? = some u:=hu
   have hj:j < 8:=(List.getElem?_eq_some_iff.1 hu').1
   have:=cell_in hj (hc j u hu')
   rw [show j + 3 = 3 + j by omega]
   exact this) h
 exact ⟨A,c,l,h1,h2⟩
theorem open_swap {base:Nat} {v:Value} {d:DataW H} {p:List MemPlace} (hv:Value.okWide Tryz.prog W .any base 35 v) (h:DataW.Trod enc Tryz.prog W 0 (fun _ => true) true 35 v d p) :
  ∃ L s,v = swV L s∧SwR W L s∧∀ v ∈ s.rd,(Lit.int .i64 v.2.2).wf = true:=by
 obtain ⟨cs,rfl,hsz⟩:=okWide_struct Tryz.underlying35 hv
 have c11:(Tryz.prog).cellsOf 35 = 11:=by kernel_rfl
 rw [c11] at hsz
 obtain ⟨fuel,hfu⟩:=h
 obtain ⟨xs,k,_,_,_,hxl,hfl⟩:=DataW.trod_struct Tryz.underlying35 hfu
 have hx7:xs.length = 7:=hxl
 have get:∀ j,j < 7→∃ y,xs[j]? = some y:=fun j hj => ⟨_,List.getElem?_eq_getElem (by omega)⟩
 obtain ⟨ls,hls⟩:∃ ls,(Value.agg cs).cells.toList = ls:=⟨_,rfl⟩
 have hcl:∀ j:Nat,ls[j]? = cs[j]?:=fun j => by rw [← hls];simp [Value.cells]
 rw [hls] at hfl
 obtain ⟨y0,f0⟩:=get 0 (by decide)
 obtain ⟨y1,f1⟩:=get 1 (by decide)
 obtain ⟨y2,f2⟩:=get 2 (by decide)
 obtain ⟨y3,f3⟩:=get 3 (by decide)
 obtain ⟨y4,f4⟩:=get 4 (by decide)
 obtain ⟨y5,f5⟩:=get 5 (by decide)
 obtain ⟨y6,f6⟩:=get 6 (by decide)
 have c2:(Tryz.prog).cellsOf 25 = 2:=by kernel_rfl
 have c3:(Tryz.prog).cellsOf 31 = 3:=by kernel_rfl
 have c4:(Tryz.prog).cellsOf 33 = 2:=by kernel_rfl
 have cW:(Tryz.prog).cellsOf 26 = 1:=by kernel_rfl
 have cR:(Tryz.prog).cellsOf 27 = 1:=by kernel_rfl
 have cI:(Tryz.prog).cellsOf 22 = 1:=by kernel_rfl
 have cB:(Tryz.prog).cellsOf 23 = 1:=by kernel_rfl
 have cC:(Tryz.prog).cellsOf 28 = 1:=by kernel_rfl
 have cJ:(Tryz.prog).cellsOf 29 = 1:=by kernel_rfl
 have g0:DataW.trod enc Tryz.prog W 0 (fun _ => true) true k 3 ((ls.drop 0).take ((Tryz.prog).cellsOf 3)) = some y0:=(hfl 0 _ rfl).trans f0
 have g1:DataW.trod enc Tryz.prog W 0 (fun _ => true) true k 25 ((ls.drop 1).take ((Tryz.prog).cellsOf 25)) = some y1:=(hfl 1 _ rfl).trans f1
 have g2:DataW.trod enc Tryz.prog W 0 (fun _ => true) true k 26 ((ls.drop 3).take ((Tryz.prog).cellsOf 26)) = some y2:=(hfl 2 _ rfl).trans f2
 have g3:DataW.trod enc Tryz.prog W 0 (fun _ => true) true k 27 ((ls.drop 4).take ((Tryz.prog).cellsOf 27)) = some y3:=(hfl 3 _ rfl).trans f3
 have g4:DataW.trod enc Tryz.prog W 0 (fun _ => true) true k 22 ((ls.drop 5).take ((Tryz.prog).cellsOf 22)) = some y4:=(hfl 4 _ rfl).trans f4
 have g5:DataW.trod enc Tryz.prog W 0 (fun _ => true) true k 31 ((ls.drop 6).take ((Tryz.prog).cellsOf 31)) = some y5:=(hfl 5 _ rfl).trans f5
 have g6:DataW.trod enc Tryz.prog W 0 (fun _ => true) true k 33 ((ls.drop 9).take ((Tryz.prog).cellsOf 33)) = some y6:=(hfl 6 _ rfl).trans f6
 rw [c2] at g1
 rw [c3] at g5
 rw [c4] at g6
 obtain ⟨cap,e0,_,_⟩:=DataW.trod_int Tryz.underlying3 g0
 have q0:=cell_of_take ci_ e0
 obtain ⟨s0,s1,n1,_,_,t0,t1⟩:=trod_struct2 Tryz.underlying25 g1
 obtain ⟨a0,k0,l0,e1,r0⟩:=open_rI t0
 obtain ⟨a1,k1,l1,e2,r1⟩:=open_rB t1
 have q1:=cell_in (by decide) (cell_of_take (o:=0) cI e1)
 have q2:=cell_in (by decide) (cell_of_take (o:=1) cB e2)
 obtain ⟨a2,k2,l2,e3,r2⟩:=open_rW g2
 have q3:=cell_of_take cW e3
 obtain ⟨a3,k3,l3,e4,r3,wf⟩:=open_rR g3
 have q4:=cell_of_take cR e4
 obtain ⟨a4,k4,l4,e5,r4⟩:=open_rI g4
 have q5:=cell_of_take cI e5
 obtain ⟨d0,d1,d2,n2,_,_,t0,t1,t2⟩:=trod_struct3 Tryz.underlying31 g5
 obtain ⟨a5,k5,l5,e6,r5⟩:=open_rC t0
 obtain ⟨a6,k6,l6,e7,r6⟩:=open_rJ t1
 obtain ⟨room,e8,_,_⟩:=DataW.trod_int Tryz.underlying3 t2
 have q6:=cell_in (by decide) (cell_of_take (o:=0) cC e6)
 have q7:=cell_in (by decide) (cell_of_take (o:=1) cJ e7)
 have q8:=cell_in (by decide) (cell_of_take (o:=2) ci_ e8)
 obtain ⟨p0,p1,n3,_,_,t0,t1⟩:=trod_struct2 Tryz.underlying33 g6
 obtain ⟨size,e9,_,_⟩:=DataW.trod_int Tryz.underlying3 t0
 obtain ⟨a7,k7,l7,e10,r7⟩:=open_rI t1
 have q9:=cell_in (by decide) (cell_of_take (o:=0) ci_ e9)
 have q10:=cell_in (by decide) (cell_of_take (o:=1) cI e10)
 refine ⟨⟨a0,k0,a1,k1,a2,k2,a3,k3,a4,k4,a5,k5,a6,k6,a7,k7⟩,⟨cap,⟨l0,l1⟩,l2,l3,l4,⟨l5,l6,room⟩,⟨size,l7⟩⟩,?_,⟨r0,r1,r2,r3,r4,r5,r6,r7⟩,wf⟩
 unfold swV
 congr 1
 refine Array.ext (by simpa [swC] using hsz) fun j h1 h2 => ?_
 have key:∀ u,ls[j]? = some u→cs[j] = u:=fun u hu => by
  rw [hcl,Array.getElem?_eq_getElem h1] at hu
  injection hu
 match j,h1,h2,key with
 | 0,_,_,key => exact key _ q0
 | 1,_,_,key => exact key _ q1
 | 2,_,_,key => exact key _ q2
 | 3,_,_,key => exact key _ q3
 | 4,_,_,key => exact key _ q4
 | 5,_,_,key => exact key _ q5
 | 6,_,_,key => exact key _ q6
 | 7,_,_,key => exact key _ q7
 | 8,_,_,key => exact key _ q8
 | 9,_,_,key => exact key _ q9
 | 10,_,_,key => exact key _ q10
 | j + 11,h1,_,_ => omega
end
end Go.Proofs.YthijbipidbjpfaaGreatDoor
