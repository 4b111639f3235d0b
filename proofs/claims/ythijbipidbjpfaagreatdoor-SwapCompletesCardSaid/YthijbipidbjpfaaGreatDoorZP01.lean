import Derived.Test.YthijbipidbjpfaaGreatDoorZP00
import Derived.Maps.AppendAt
import Derived.Deep.AppendSrc
import Derived.Deep.DeepAppendWide
import Derived.Deep.RegionHeld3
import Derived.Deep.DeepCutAuto
import Derived.Shelf.SortM.Plain
import Derived.Shelf.SortM.SortNone
import Derived.Sort.OwnSorted
import Derived.Lib.SlKeysI
set_option linter.unusedSimpArgs false
set_option linter.unusedVariables false
set_option maxRecDepth 100000
set_option maxHeartbeats 8000000
namespace Go.Proofs.YthijbipidbjpfaaGreatDoor
open Go.RowKit Go.Maps
def okW(x:Wr):Bool:=decide (0≤x.1∧x.1<256) && (decide (0≤x.2.1∧x.2.1<256) && (decide (x.2.2=0) || decide (1≤x.2.2∧x.2.2≤8)))
def readG(m:List ((Int × Int) × Int))(i:Nat):List Wr→Int × Nat × List ((Int × Int) × Int)
 | []=>(0,0,m)
 | x::l=>if okW x then (if clashM m x.1 x.2.1 x.2.2 then (7,i,[]) else readG (addM m x.1 x.2.1 x.2.2 i) (i+1) l) else (2,i,[])
def readS(l:List Wr):Int × Nat × List ((Int × Int) × Int):=if 16<l.length then (5,0,[]) else readG [] 0 l
theorem readG_at{m:List ((Int × Int) × Int)}{l:List Wr}{k:Nat}{x:Wr}(h:l[k]? = some x) :
  readG m k (l.drop k)=if okW x then (if clashM m x.1 x.2.1 x.2.2 then (7,k,[]) else readG (addM m x.1 x.2.1 x.2.2 k) (k+1) (l.drop (k+1))) else (2,k,[]):=by
 obtain⟨hk,rfl⟩:=List.getElem?_eq_some_iff.1 h;rw[List.drop_eq_getElem_cons hk,readG]
def ReadPost(l:List Wr)(w:World)(e:Ending)(w':World):Prop:=
 Below w.heap.size w w'∧∃ B,w.heap.size≤B∧e=.returned (.tuple #[.map (if (readS l).1=0 then some B else none),.int .i64 (readS l).1,.int .i64 (readS l).2.1])∧((readS l).1=0→MapK w' B (readS l).2.2)
theorem below_grown{w a b:World}{B:Nat}(h:Below w.heap.size w a)(hg:a.grownBy b (some B))(hB:w.heap.size≤B):Below w.heap.size w b:=
 ⟨hg.os.trans h.os,hg.tape.trans h.tape,hg.output.trans h.output,Nat.le_trans h.size hg.size,fun k hk=>(hg.block k (by have:=h.size;omega) (by simp;omega)).trans (h.block k hk)⟩
theorem ReadPost.bad{l:List Wr}{w w':World}{z:Int}{k:Nat}{m:List ((Int × Int) × Int)}(hz:readS l=(z,k,m))(hn:z≠0)(hb:Below w.heap.size w w') :
  ReadPost l w (.returned (.tuple #[.map none,.int .i64 z,.int .i64 k])) w':=by
 unfold ReadPost;rw[hz];exact⟨hb,w.heap.size,Nat.le_refl _,by rw[if_neg hn],fun e=>absurd e hn⟩
theorem ReadPost.good{l:List Wr}{w w':World}{k B:Nat}{m:List ((Int × Int) × Int)}(hz:readS l=(0,k,m))(hB:w.heap.size≤B)(hm:MapK w' B m)(hb:Below w.heap.size w w') :
  ReadPost l w (.returned (.tuple #[.map (some B),.int .i64 0,.int .i64 k])) w':=by
 unfold ReadPost;rw[hz];exact⟨hb,B,hB,by rw[if_pos rfl],fun _=>hm⟩
theorem read_any(A:Option Addr)(c:Nat)(l:List Wr)(w:World)(ha:SW w A l)(la:l.length≤1000) :
  Calls Tryz.prog 120 #[.slice A l.length c] w (ReadPost l w):=by
 have HA:=Lib.hid ha;clear ha
 by_cases h16:16<l.length
 ·have hS:readS l=(5,0,[]):=by unfold readS;rw[if_pos h16]
  have h16':(16:Int)<l.length:=by omega
  have HS:=Lib.hid hS;clear hS
  go_enter Tryz.func120,Tryz.ntmps120
  go_wp2
  refine bodyPost_ret (by simp[results,Tryz.results120,go_sem] <;> rfl) rfl ?_;exact ReadPost.bad HS.out (by decide) (Below.refl _ _)
 ·have hS:readS l=readG [] 0 l:=by unfold readS;rw[if_neg h16]
  have HS:=Lib.hid hS;clear hS;have hmm:=@run_makeMap Tryz.prog
  go_enter Tryz.func120,Tryz.ntmps120
  go_wp2
  go_loopw [14] (fun i wr=>∃ (k:Nat) (m:List ((Int × Int) × Int)),k≤l.length∧i=.int .i64 k∧MapK wr w.heap.size m∧Hid (readG [] 0 l=readG m k (l.drop k))∧Below w.heap.size w wr) (fun i _=>l.length - (intOf i).toNat)
  case atStart=>exact⟨0,[],by omega,rfl,MapK.new_ w,rfl,zbl⟩
  case round=>
   obtain⟨k,m,hk,rfl,hm,HR,hbw⟩:=hrel
   by_cases hlt:k<l.length
   ·obtain⟨b,off,x,rfl,hbl,hx,hc,hc1,hc2⟩:=(HA.out.ext hbw).at_ hlt
    have i1:(k:Int)<l.length:=by omega
    have HR':=HR.out;rw[readG_at hx] at HR';have HX:=Lib.hid hx;clear hx HR
    cases d1:decide (0≤x.1∧x.1<256) with
    | true=>
     cases d2:decide (0≤x.2.1∧x.2.1<256) with
     | true=>
      by_cases hc0:x.2.2=0
      ·have hok:okW x=true:=by simp[okW,d1,d2,hc0]
       rw[hc0] at hc2 HR'
       cases hcl:clashM m x.1 x.2.1 0 with
       | true=>
        have hz:readS l=(7,k,[]):=by rw[HS.out,HR',if_pos hok,if_pos hcl]
        clear HR'
        go_wp2_with (first | (go_at_call 161;with_reducible refine (isSlot_b _ _ d1 _).mono ?_;rintro e w' ⟨rfl,rfl⟩) | (go_at_call 162;with_reducible refine (isFrame_b _ _ d2 _).mono ?_;rintro e w' ⟨rfl,rfl⟩) | (go_at_call 163;with_reducible refine (add_c _ m _ _ _ _ _ ?_).mono ?_;(exact hm.below_ (C:=wr.heap.size) zbl hm.lt);(try unfold addIf);rw[hcl];rintro e w1 ⟨rfl,hm1,hg1⟩))
        refine bodyPost_ret (by simp[results,Tryz.results120,go_sem] <;> rfl) rfl ?_;exact ReadPost.bad hz (by decide) (below_grown zbl hg1 (Nat.le_refl _))
       | false=>
        rw[if_pos hok,hcl,if_neg (by simp)] at HR';have HR:=Lib.hid HR';clear HR'
        go_wp2_with (first | (go_at_call 161;with_reducible refine (isSlot_b _ _ d1 _).mono ?_;rintro e w' ⟨rfl,rfl⟩) | (go_at_call 162;with_reducible refine (isFrame_b _ _ d2 _).mono ?_;rintro e w' ⟨rfl,rfl⟩) | (go_at_call 163;with_reducible refine (add_c _ m _ _ _ _ _ ?_).mono ?_;(exact hm.below_ (C:=wr.heap.size) zbl hm.lt);(try unfold addIf);rw[hcl];rintro e w1 ⟨rfl,hm1,hg1⟩))
        go_roundw
        case rel=>exact⟨k+1,_,by omega,by go_num,hm1,HR.out,below_grown zbl hg1 (Nat.le_refl _)⟩
        case measure=>simp[intOf];omega
      ·cases d3:decide (1≤x.2.2∧x.2.2≤8) with
       | true=>
        have hok:okW x=true:=by simp[okW,d1,d2,d3]
        cases hcl:clashM m x.1 x.2.1 x.2.2 with
        | true=>
         have hz:readS l=(7,k,[]):=by rw[HS.out,HR',if_pos hok,if_pos hcl]
         clear HR'
         go_wp2_with (first | (go_at_call 161;with_reducible refine (isSlot_b _ _ d1 _).mono ?_;rintro e w' ⟨rfl,rfl⟩) | (go_at_call 162;with_reducible refine (isFrame_b _ _ d2 _).mono ?_;rintro e w' ⟨rfl,rfl⟩) | (go_at_call 153;with_reducible refine (isProc_b _ _ d3 _).mono ?_;rintro e w' ⟨rfl,rfl⟩) | (go_at_call 163;with_reducible refine (add_c _ m _ _ _ _ _ ?_).mono ?_;(exact hm.below_ (C:=wr.heap.size) zbl hm.lt);(try unfold addIf);rw[hcl];rintro e w1 ⟨rfl,hm1,hg1⟩))
         refine bodyPost_ret (by simp[results,Tryz.results120,go_sem] <;> rfl) rfl ?_;exact ReadPost.bad hz (by decide) (below_grown zbl hg1 (Nat.le_refl _))
        | false=>
         rw[if_pos hok,hcl,if_neg (by simp)] at HR';have HR:=Lib.hid HR';clear HR'
         go_wp2_with (first | (go_at_call 161;with_reducible refine (isSlot_b _ _ d1 _).mono ?_;rintro e w' ⟨rfl,rfl⟩) | (go_at_call 162;with_reducible refine (isFrame_b _ _ d2 _).mono ?_;rintro e w' ⟨rfl,rfl⟩) | (go_at_call 153;with_reducible refine (isProc_b _ _ d3 _).mono ?_;rintro e w' ⟨rfl,rfl⟩) | (go_at_call 163;with_reducible refine (add_c _ m _ _ _ _ _ ?_).mono ?_;(exact hm.below_ (C:=wr.heap.size) zbl hm.lt);(try unfold addIf);rw[hcl];rintro e w1 ⟨rfl,hm1,hg1⟩))
         go_roundw
         case rel=>exact⟨k+1,_,by omega,by go_num,hm1,HR.out,below_grown zbl hg1 (Nat.le_refl _)⟩
         case measure=>simp[intOf];omega
       | false=>
        have hz:readS l=(2,k,[]):=by rw[HS.out,HR',if_neg (by simp[okW,d1,d2,d3,hc0])]
        clear HR'
        go_wp2_with (first | (go_at_call 161;with_reducible refine (isSlot_b _ _ d1 _).mono ?_;rintro e w' ⟨rfl,rfl⟩) | (go_at_call 162;with_reducible refine (isFrame_b _ _ d2 _).mono ?_;rintro e w' ⟨rfl,rfl⟩) | (go_at_call 153;with_reducible refine (isProc_b _ _ d3 _).mono ?_;rintro e w' ⟨rfl,rfl⟩))
        refine bodyPost_ret (by simp[results,Tryz.results120,go_sem] <;> rfl) rfl ?_;exact ReadPost.bad hz (by decide) zbl
     | false=>
      have hz:readS l=(2,k,[]):=by rw[HS.out,HR',if_neg (by simp[okW,d1,d2])]
      clear HR'
      go_wp2_with (first | (go_at_call 161;with_reducible refine (isSlot_b _ _ d1 _).mono ?_;rintro e w' ⟨rfl,rfl⟩) | (go_at_call 162;with_reducible refine (isFrame_b _ _ d2 _).mono ?_;rintro e w' ⟨rfl,rfl⟩))
      refine bodyPost_ret (by simp[results,Tryz.results120,go_sem] <;> rfl) rfl ?_;exact ReadPost.bad hz (by decide) zbl
    | false=>
     have hz:readS l=(2,k,[]):=by rw[HS.out,HR',if_neg (by simp[okW,d1])]
     clear HR'
     go_wp2_with (first | (go_at_call 161;with_reducible refine (isSlot_b _ _ d1 _).mono ?_;rintro e w' ⟨rfl,rfl⟩))
     refine bodyPost_ret (by simp[results,Tryz.results120,go_sem] <;> rfl) rfl ?_;exact ReadPost.bad hz (by decide) zbl
   ·have hd:l.drop k=[]:=List.drop_eq_nil_of_le (by omega)
    have hz:readS l=(0,0,m):=by rw[HS.out,HR.out,hd,readG]
    clear hd HR HS;have HZ:=Lib.hid hz;clear hz
    go_wp2
    refine bodyPost_ret (by simp[results,Tryz.results120,go_sem] <;> rfl) rfl ?_;exact ReadPost.good HZ.out (Nat.le_refl _) hm zbl
def mapFrom(i:Nat):List Wr→List ((Int × Int) × Int)
 | []=>[]
 | x::l=>(keysOf x.1 x.2.1 x.2.2).map (fun k=>(k,(i:Int)))++mapFrom (i+1) l
def mapOf(l:List Wr):List ((Int × Int) × Int):=mapFrom 0 l
theorem mapFrom_snoc(x:Wr):∀ (l:List Wr) (i:Nat),mapFrom i (l++[x])=addM (mapFrom i l) x.1 x.2.1 x.2.2 ((i+l.length:Nat):Int)
 | [],i=>by simp[mapFrom,addM]
 | y::l,i=>by
  rw[List.cons_append,mapFrom,mapFrom_snoc x l (i+1),mapFrom];unfold addM;simp[Nat.add_assoc,Nat.add_comm 1]
theorem mapOf_snoc(x:Wr)(l:List Wr):mapOf (l++[x])=addM (mapOf l) x.1 x.2.1 x.2.2 l.length:=by
 unfold mapOf;rw[mapFrom_snoc];simp
theorem lookup_keys(x:Wr)(i:Int)(k:Int × Int):((keysOf x.1 x.2.1 x.2.2).map (fun k=>(k,i))).lookup k=if k ∈ keysOf x.1 x.2.1 x.2.2 then some i else none:=by
 generalize keysOf x.1 x.2.1 x.2.2=ks
 induction ks with
 | nil=>simp
 | cons a ks ih=>
  rw[List.map_cons,List.lookup_cons]
  by_cases h:k=a
  ·simp[h]
  ·have:(k == a)=false:=by simpa using h
   rw[this];simp only[ih,List.mem_cons,h,false_or]
theorem look_from(k:Int × Int)(p:Wr→Bool)(hp:∀ x:Wr,p x=decide (k ∈ keysOf x.1 x.2.1 x.2.2)):∀ (l:List Wr) (i:Nat),(mapFrom i l).lookup k=(l.findIdx? p).map (fun j=>((i+j:Nat):Int))
 | [],i=>by simp[mapFrom]
 | x::l,i=>by
  rw[mapFrom,List.lookup_append,lookup_keys,List.findIdx?_cons,look_from k p hp l (i+1),hp x]
  by_cases h:k ∈ keysOf x.1 x.2.1 x.2.2
  ·simp[h]
  ·simp only[h,if_false,decide_false,Option.none_or,Bool.false_eq_true,Option.map_map]
   congr 1
   funext j
   simp only[Function.comp]
   congr 1
   omega
theorem look_slot(s:Int)(l:List Wr):(mapOf l).lookup (1,s)=(l.findIdx? (fun x=>decide (x.1=s))).map (β:=Int) (fun j:Nat=>(j:Int)):=by
 unfold mapOf
 rw[look_from (1,s) (fun x=>decide (x.1=s)) (fun x=>by
  unfold keysOf
  by_cases h:x.1=s
  ·simp[h]
  ·have:s≠x.1:=fun e=>h e.symm
   split <;> simp[h,this])]
 simp
theorem look_frame(s:Int)(l:List Wr):(mapOf l).lookup (2,s)=(l.findIdx? (fun x=>decide (x.2.1=s))).map (β:=Int) (fun j:Nat=>(j:Int)):=by
 unfold mapOf
 rw[look_from (2,s) (fun x=>decide (x.2.1=s)) (fun x=>by
  unfold keysOf
  by_cases h:x.2.1=s
  ·simp[h]
  ·have:s≠x.2.1:=fun e=>h e.symm
   split <;> simp[h,this])]
 simp
theorem look_claim{s:Int}(hs:s≠0)(l:List Wr):(mapOf l).lookup (3,s)=(l.findIdx? (fun x=>decide (x.2.2=s))).map (β:=Int) (fun j:Nat=>(j:Int)):=by
 unfold mapOf
 rw[look_from (3,s) (fun x=>decide (x.2.2=s)) (fun x=>by
  unfold keysOf
  by_cases h:x.2.2=s
  ·rw[if_neg (by omega)];simp[h]
  ·have:s≠x.2.2:=fun e=>h e.symm
   split <;> simp[h,this])]
 simp
def hit(pre:List Wr)(x:Wr):Bool:=pre.any fun y=>decide (y.1=x.1) || (decide (y.2.1=x.2.1) || (decide (x.2.2≠0) && decide (y.2.2=x.2.2)))
theorem isSome_findIdx{p:Wr→Bool}{l:List Wr}:(l.findIdx? p).isSome=l.any p:=by simp
theorem any_or(p q:Wr→Bool)(l:List Wr):(l.any fun y=>p y || q y)=(l.any p || l.any q):=by
 induction l with
 | nil=>rfl
 | cons a l ih=>simp only[List.any_cons,ih];cases p a <;> cases q a <;> simp
theorem any_and(b:Bool)(q:Wr→Bool)(l:List Wr):(l.any fun y=>b && q y)=(b && l.any q):=by
 cases b <;> simp
theorem clash_hit(l:List Wr)(x:Wr):clashM (mapOf l) x.1 x.2.1 x.2.2=hit l x:=by
 unfold clashM hit;rw[any_or,any_or,any_and];unfold keysOf
 by_cases h:x.2.2=0
 ·simp only[h,if_true,List.append_nil,List.any_cons,List.any_nil,look_slot,look_frame,Option.isSome_map,isSome_findIdx]
  simp
 ·simp only[h,if_false,List.cons_append,List.nil_append,List.any_cons,List.any_nil,look_slot,look_frame,look_claim h,Option.isSome_map,isSome_findIdx]
  simp[h]
def chkG(pre:List Wr):List Wr→Int × Nat
 | []=>(0,0)
 | x::l=>if okW x then (if hit pre x then (7,pre.length) else chkG (pre++[x]) l) else (2,pre.length)
def chkS(l:List Wr):Int × Nat:=if 16<l.length then (5,0) else chkG [] l
theorem read_chk:∀ (l pre:List Wr),readG (mapOf pre) pre.length l=((chkG pre l).1,(chkG pre l).2,if (chkG pre l).1=0 then mapOf (pre++l) else [])
 | [],pre=>by simp[readG,chkG]
 | x::l,pre=>by
  rw[readG,chkG,clash_hit]
  by_cases h1:okW x
  ·by_cases h2:hit pre x
   ·simp[h1,h2]
   ·rw[if_pos h1,if_neg h2,if_pos h1,if_neg h2]
    have:=read_chk l (pre++[x]);rw[mapOf_snoc] at this;simp only[List.length_append,List.length_cons,List.length_nil,Nat.zero_add,List.append_assoc,List.cons_append,List.nil_append] at this;exact this
  ·simp[h1]
theorem readS_chk(l:List Wr):readS l=((chkS l).1,(chkS l).2,if (chkS l).1=0 then mapOf l else []):=by
 unfold readS chkS
 by_cases h:16<l.length
 ·simp[h]
 ·rw[if_neg h,if_neg h]
  have:=read_chk l [];simpa [mapOf,mapFrom] using this
theorem ReadPost.plain{l:List Wr}{w w':World}{e:Ending}(h:ReadPost l w e w') :
  Below w.heap.size w w'∧((chkS l).1≠0∧e=.returned (.tuple #[.map none,.int .i64 (chkS l).1,.int .i64 (chkS l).2]) ∨
   (chkS l).1=0∧∃ B,w.heap.size≤B∧e=.returned (.tuple #[.map (some B),.int .i64 0,.int .i64 (chkS l).2])∧MapK w' B (mapOf l)):=by
 unfold ReadPost at h
 rw[readS_chk] at h
 obtain⟨hb,B,hB,he,hm⟩:=h
 refine⟨hb,?_⟩
 by_cases h0:(chkS l).1=0
 ·refine .inr ⟨h0,B,hB,?_,?_⟩
  ·rw[he];simp[h0]
  ·have:=hm h0
   simpa [h0] using this
 ·refine .inl ⟨h0,?_⟩
  rw[he];simp[h0]
theorem read_bad(A:Option Addr)(c:Nat)(l:List Wr)(w:World)(ha:SW w A l)(la:l.length≤1000){z:Int}{k:Nat}(hz:chkS l=(z,k))(hn:z≠0) :
  Calls Tryz.prog 120 #[.slice A l.length c] w fun e w'=>e=.returned (.tuple #[.map none,.int .i64 z,.int .i64 k])∧Below w.heap.size w w':=
 (read_any A c l w ha la).mono fun e w' h=>by
  obtain⟨hb,⟨h0,he⟩ | ⟨h0,_⟩⟩:=h.plain
  ·rw[hz] at he;exact⟨he,hb⟩
  ·rw[hz] at h0;exact absurd h0 hn
theorem read_good(A:Option Addr)(c:Nat)(l:List Wr)(w:World)(ha:SW w A l)(la:l.length≤1000)(hz:(chkS l).1=0) :
  Calls Tryz.prog 120 #[.slice A l.length c] w fun e w'=>∃ B,e=.returned (.tuple #[.map (some B),.int .i64 0,.int .i64 (chkS l).2])∧w.heap.size≤B∧MapK w' B (mapOf l)∧Below w.heap.size w w':=
 (read_any A c l w ha la).mono fun e w' h=>by
  obtain⟨hb,⟨h0,he⟩ | ⟨h0,B,hB,he,hm⟩⟩:=h.plain
  ·exact absurd hz h0
  ·exact⟨B,he,hB,hm,hb⟩
def findS(l:List Wr)(s:Int):Nat × Int:=
 if (chkS l).1≠0 then (0,(chkS l).1) else if 0≤s∧s<256 then (match l.findIdx? (fun x=>decide (x.1=s)) with | none=>(0,6) | some i=>(i,0)) else (0,2)
def FindPost(l:List Wr)(s:Int)(w:World)(e:Ending)(w':World):Prop:=
 Below w.heap.size w w'∧((findS l s).2≠0∧e=.returned (.tuple #[.map none,.int .i64 0,.int .i64 (findS l s).2]) ∨
  (findS l s).2=0∧∃ B,w.heap.size≤B∧e=.returned (.tuple #[.map (some B),.int .i64 (findS l s).1,.int .i64 0])∧MapK w' B (mapOf l))
theorem FindPost.bad{l:List Wr}{s:Int}{w w':World}{z:Int}(hz:(findS l s).2=z)(hn:z≠0)(hb:Below w.heap.size w w'):FindPost l s w (.returned (.tuple #[.map none,.int .i64 0,.int .i64 z])) w':=
 ⟨hb,.inl ⟨by rw[hz];exact hn,by rw[hz]⟩⟩
theorem FindPost.good{l:List Wr}{s:Int}{w w':World}{i B:Nat}(hz:findS l s=(i,0))(hB:w.heap.size≤B)(hm:MapK w' B (mapOf l))(hb:Below w.heap.size w w'):FindPost l s w (.returned (.tuple #[.map (some B),.int .i64 i,.int .i64 0])) w':=
 ⟨hb,.inr ⟨by rw[hz],B,hB,by rw[hz],hm⟩⟩
theorem rlook{w:World}{B:Nat}{m:List ((Int × Int) × Int)}(h:MapK w B m)(a b:Int){o:Option Int}(ho:m.lookup (a,b)=o) :
  (Instr.lookup 152 (.map (some B)) (.agg #[.int .i64 a,.int .i64 b]) true).run Tryz.prog w=.ok (okOf o) w:=by
 rw[←ho];exact run_lookK h (a,b)
theorem find_any(A:Option Addr)(c:Nat)(l:List Wr)(s:Int)(w:World)(ha:SW w A l)(la:l.length≤1000) :
  Calls Tryz.prog 152 #[.slice A l.length c,.int .i64 s] w (FindPost l s w):=by
 have HA:=Lib.hid ha;clear ha
 by_cases hz:(chkS l).1=0
 ·have HZ:=Lib.hid hz
  cases d1:decide (0≤s∧s<256) with
  | true=>
   have hs:0≤s∧s<256:=by simpa using d1
   cases hf:l.findIdx? (fun x=>decide (x.1=s)) with
   | none=>
    have hF:Hid ((findS l s).2=6):=by show _=_;unfold findS;rw[if_neg (by simp[hz]),if_pos hs,hf]
    have hL:Hid ((mapOf l).lookup (1,s)=none):=by show _=_;rw[look_slot,hf];rfl
    clear hf hz hs
    go_enter Tryz.func152,Tryz.ntmps152
    go_wp2_with (first | (go_at_call 161;with_reducible refine (isSlot_b _ _ d1 _).mono ?_;rintro e w' ⟨rfl,rfl⟩) | (go_at_call 120;with_reducible refine (read_good _ _ _ _ HA.out la HZ.out).mono ?_;rintro e w1 ⟨B,rfl,hB,hm,hb1⟩;have hlk:=rlook hm 1 s hL.out;simp only[okOf] at hlk))
    refine bodyPost_ret (by simp[results,Tryz.results152,go_sem] <;> rfl) rfl ?_;exact FindPost.bad hF.out (by decide) zbl
   | some i=>
    have hF:Hid (findS l s=(i,0)):=by show _=_;unfold findS;rw[if_neg (by simp[hz]),if_pos hs,hf]
    have hL:Hid ((mapOf l).lookup (1,s)=some (i:Int)):=by show _=_;rw[look_slot,hf];rfl
    clear hf hz hs
    go_enter Tryz.func152,Tryz.ntmps152
    go_wp2_with (first | (go_at_call 161;with_reducible refine (isSlot_b _ _ d1 _).mono ?_;rintro e w' ⟨rfl,rfl⟩) | (go_at_call 120;with_reducible refine (read_good _ _ _ _ HA.out la HZ.out).mono ?_;rintro e w1 ⟨B,rfl,hB,hm,hb1⟩;have hlk:=rlook hm 1 s hL.out;simp only[okOf] at hlk))
    refine bodyPost_ret (by simp[results,Tryz.results152,go_sem] <;> rfl) rfl ?_;exact FindPost.good hF.out hB hm zbl
  | false=>
   have hF:Hid ((findS l s).2=2):=by show _=_;unfold findS;rw[if_neg (by simp[hz]),if_neg (by simpa using d1)]
   clear hz
   go_enter Tryz.func152,Tryz.ntmps152
   go_wp2_with (first | (go_at_call 161;with_reducible refine (isSlot_b _ _ d1 _).mono ?_;rintro e w' ⟨rfl,rfl⟩) | (go_at_call 120;with_reducible refine (read_good _ _ _ _ HA.out la HZ.out).mono ?_;rintro e w1 ⟨B,rfl,hB,hm,hb1⟩))
   refine bodyPost_ret (by simp[results,Tryz.results152,go_sem] <;> rfl) rfl ?_;exact FindPost.bad hF.out (by decide) zbl
 ·obtain⟨⟨z,k⟩,hk⟩:∃ r,chkS l=r:=⟨_,rfl⟩
  rw[hk] at hz;have hF:Hid ((findS l s).2=z):=by show _=_;unfold findS;rw[hk,if_pos hz]
  have hzb:(z != 0)=true:=by simpa using hz
  have HK:=Lib.hid hk;have HN:=Lib.hid hz;clear hk
  go_enter Tryz.func152,Tryz.ntmps152
  go_wp2_with (first | (go_at_call 120;with_reducible refine (read_bad _ _ _ _ HA.out la HK.out HN.out).mono ?_;rintro e w1 ⟨rfl,hb1⟩))
  refine bodyPost_ret (by simp[results,Tryz.results152,go_sem] <;> rfl) rfl ?_;exact FindPost.bad hF.out HN.out zbl
theorem wrInfo:(Tryz.prog.info? 106).map (fun i=>(i.zero,i.size,i.bytes))=some (some (.agg #[.int .i64 0,.int .i64 0,.int .i64 0]),3,24):=by kernel_rfl
def cellsW(l:List Wr):List Value:=(flat l).map (Value.int .i64)
theorem cellsW_length(l:List Wr):(cellsW l).length=l.length*3:=by simp[cellsW,flat_length]
theorem cellsW_append(l k:List Wr):cellsW (l++k)=cellsW l++cellsW k:=by simp[cellsW,flat_append]
theorem cellsW_one(l:List Wr):∀ u ∈ cellsW l,u.oneCell'=true:=int_one _
def OwnW(w:World)(base:Nat)(v:Value)(l:List Wr):Prop:=w.ownsRow base 106 3 v l.length (cellsW l)
def CanApp(w:World)(base:Nat)(A:Option Addr)(c:Nat)(l:List Wr):Prop:=(c=l.length∧SW w A l)∨OwnW w base (.slice A l.length c) l
theorem OwnW.sw{w:World}{base:Nat}{A:Option Addr}{c n:Nat}{l:List Wr}(h:OwnW w base (.slice A n c) l):n=l.length∧SW w A l:=by
 obtain⟨hl,⟨e,hn⟩ | ⟨g,cap,cur,e,_,hb,_,_,hs,ht⟩⟩:=h
 ·injection e with e1 e2 e3
  have:l=[]:=List.length_eq_zero_iff.1 hn;subst this;exact⟨by simp[e2],SW.nil⟩
 ·injection e with e1 e2 e3
  subst e1 e2 e3;refine⟨rfl,fun hp=>⟨g,0,rfl,(Array.getElem?_eq_some_iff.1 hb).1,fun j x hx => ?_⟩⟩
  have hj:j<l.length*3:=by
   have:=(List.getElem?_eq_some_iff.1 hx).1;rw[flat_length] at this;exact this
  have h1:(cellsW l)[j]? = some (.int .i64 x):=by simp[cellsW,hx]
  rw[←ht,List.getElem?_take_of_lt hj] at h1;rw[show (0:Nat)+j=j by omega,Blk.cell_ (w:=w) (b:=g) hb j,←h1];simp
def Mine(w:World)(base:Nat)(A:Option Addr)(c:Nat)(l:List Wr):Prop:=l=[]∨OwnW w base (.slice A l.length c) l
theorem Mine.far{w:World}{base:Nat}{A:Option Addr}{c:Nat}{l:List Wr}(h:Mine w base A c l){g:Nat}(o:Nat)(u:Value)(hg:g<base):Mine (w.setCell ⟨g,o,none⟩ u) base A c l:=by
 rcases h with h | ⟨hl,h⟩
 ·exact .inl h
 ·refine .inr ⟨hl,?_⟩
  rcases h with h | ⟨g',cap,cur,e,h1,h2,h3⟩
  ·exact .inl h
  ·exact .inr ⟨g',cap,cur,e,h1,(Below.heap_setCell w ⟨g,o,none⟩ u g' (by show g'≠g;omega)).trans h2,h3⟩
theorem CanApp.sw{w:World}{base:Nat}{A:Option Addr}{c:Nat}{l:List Wr}(h:CanApp w base A c l):SW w A l:=by
 rcases h with ⟨_,h⟩ | h
 ·exact h
 ·exact h.sw.2
theorem CanApp.ext{w w':World}{base:Nat}{A:Option Addr}{c:Nat}{l:List Wr}(h:CanApp w base A c l)(hb:Below w.heap.size w w'):CanApp w' base A c l:=by
 rcases h with ⟨hc,h⟩ | ⟨hl,h⟩
 ·exact .inl ⟨hc,h.ext hb⟩
 ·refine .inr ⟨hl,?_⟩
  rcases h with h | ⟨g,cap,cur,e,h1,h2,h3⟩
  ·exact .inl h
  ·exact .inr ⟨g,cap,cur,e,h1,(hb.block g (Array.getElem?_eq_some_iff.1 h2).1).trans h2,h3⟩
theorem SW.cells{w:World}{b off:Nat}{sp}{l:List Wr}(h:SW w (some ⟨b,off,sp⟩) l):∀ j u,(cellsW l)[j]? = some u→w.cell? ((⟨b,off,sp⟩:Addr).add j)=some u:=Sl.cells h
theorem first_none(w:World)(B:Option Addr)(d k:Nat):(Builtin.firstCells k 0 (.slice B 0 d)).run Tryz.prog w=.ok #[] w:=by
 cases B with
 | none=>exact run_firstCells_none w k 0 0 d
 | some ad=>exact run_firstCells_some w k 0 ad 0 d [] (by simp) (fun j u hu=>by simp at hu)
theorem both_own{m:Sem Value}{w w':World}{base c c':Nat}{A A':Option Addr}{l k:List Wr}(hr:m.run Tryz.prog w=.ok (.slice A' (l++k).length c') w')(hb:Below base w w')(ho:OwnW w' base (.slice A' (l++k).length c') (l++k)) :
  ∃ A' c' w',m.run Tryz.prog w=.ok (.slice A' (l++k).length c') w'∧CanApp w' base A' c' (l++k)∧Below base w w'∧(k≠[]∨Mine w base A c l→Mine w' base A' c' (l++k)):=
 ⟨A',c',w',hr,.inr ho,hb,fun _=>.inr ho⟩
theorem run_appW(ty:TypeId)(w:World)(base:Nat)(hbase:base≤w.heap.size)(A:Option Addr)(c:Nat)(l:List Wr)(h:CanApp w base A c l)(B:Option Addr)(d:Nat)(k:List Wr)(hk:SW w B k)(hl:l.length+k.length≤10000) :
  ∃ A' c' w',(Builtin.append_ #[26,26] ty #[.slice A l.length c,.slice B k.length d]).run Tryz.prog w=.ok (.slice A' (l++k).length c') w'∧CanApp w' base A' c' (l++k)∧Below base w w'∧(k≠[]∨Mine w base A c l→Mine w' base A' c' (l++k)):=by
 obtain⟨i0,hi,hz0,hz1,hz2⟩:=info_parts wrInfo
 by_cases h0:k=[]
 ·subst h0
  refine⟨A,c,w,?_,by simpa using h,Below.refl _ _,by simp⟩
  have hfc:=fun n=>first_none w B d n
  have hle:l.length≤c:=by
   rcases h with ⟨hc,_⟩ | ⟨_,⟨e,_⟩ | ⟨g,cap,cur,e,_,_,hle,_⟩⟩
   ·omega
   ·injection e with e1 e2 e3;omega
   ·injection e with e1 e2 e3;omega
  cases A with
  | none=>
   have hl0:l=[]:=by
    rcases Nat.eq_zero_or_pos l.length with e | e
    ·exact List.length_eq_zero_iff.1 e
    ·obtain⟨b,off,e',_⟩:=h.sw (by rw[flat_length];omega)
     cases e'
   subst hl0;simp[Builtin.append_,run_underlying Tryz.underlying26,sizeOf,typeInfo,hi,Builtin.lenOf,hfc]
  | some ad=>simp[Builtin.append_,run_underlying Tryz.underlying26,sizeOf,typeInfo,hi,Builtin.lenOf,hfc,hle,storeCells]
 ·have hp:0<k.length:=List.length_pos_iff.2 h0
  obtain⟨b,off,rfl,hb,hc⟩:=hk (by rw[flat_length];omega);have hk':SW w (some ⟨b,off,none⟩) k:=hk
  rcases h with ⟨rfl,h⟩ | h
  ·have hold:(Builtin.firstCells i0.size l.length (.slice A l.length l.length)).run Tryz.prog w.drew=.ok (cellsW l).toArray w.drew:=by
    rw[hz1]
    cases A with
    | none=>
     have hl0:l=[]:=by
      rcases Nat.eq_zero_or_pos l.length with e | e
      ·exact List.length_eq_zero_iff.1 e
      ·obtain⟨b,off,e',_⟩:=h (by rw[flat_length];omega)
       cases e'
     subst hl0;exact run_firstCells_none _ 3 0 0 0
    | some ad=>
     rcases Nat.eq_zero_or_pos l.length with e | e
     ·rw[e,List.length_eq_zero_iff.1 e]
      exact first_none _ (some ad) 0 3
     ·obtain⟨b,off,e',_⟩:=h (by rw[flat_length];omega)
      injection e' with e'
      subst e';exact run_firstCells_some w.drew 3 l.length ⟨b,off,none⟩ l.length l.length (cellsW l) (by rw[cellsW_length]) (SW.cells h)
   have hsrc:Src Tryz.prog i0.size 26 (.slice (some ⟨b,off,none⟩) k.length d) k.length (cellsW k) w:=by
    rw[hz1];exact Src.ofSlice w Tryz.underlying26 ⟨b,off,none⟩ k.length d (cellsW k) (by rw[cellsW_length]) (SW.cells hk') (cellsW_one k)
   have hr:=run_append_grow_src w 26 26 ty 106 i0 _ Tryz.underlying26 hi hz0 A l.length l.length (cellsW l) hold _ k.length (cellsW k) hsrc (by omega) (by omega)
    (growslice_fits_wide (by omega) (by rw[hz2];omega))
   have hge:=grownCap_ge w (l.length+k.length) l.length 106;have hle:=grownCap_le_maxLen w (l.length+k.length) l.length 106 (by unfold maxLen;omega);refine both_own (by rw[List.length_append];exact hr) ((Below.refl _ _).drew.alloc hbase _) ?_;refine⟨cellsW_length _,.inr ⟨w.heap.size,_,_,rfl,hbase,World.alloc_heap_new w.drew _,by rw[List.length_append];exact hge,hle,?_,?_⟩⟩
   ·simp[Builtin.zeroCells,cellsW_length,Value.cells]
    omega
   ·have hn:(cellsW l++cellsW k).length=(l++k).length*3:=by rw[←cellsW_append,cellsW_length]
    rw[Array.toList_append,List.take_append_of_le_length (by rw[List.toList_toArray,hn];exact Nat.le_refl _),List.toList_toArray,List.take_of_length_le (by rw[hn];exact Nat.le_refl _),cellsW_append]
  ·obtain⟨v',w',hrun,h2,h3,_,h5⟩:=run_append_own_at (P:=Tryz.prog) w base 26 ty 106 i0 _ 3 24 Tryz.underlying26 hi hz0 hz1 hz2 rfl (by omega) _ l.length (cellsW l) h ⟨b,off,none⟩ k.length d (cellsW k) (cellsW_length k) (SW.cells hk') (cellsW_one k) (by unfold maxLen;omega) (by omega) hbase
   have hO:OwnW w' base v' (l++k):=by
    unfold OwnW;rw[cellsW_append,List.length_append];exact h2
   have hv:∃ A' c',v'=.slice A' (l++k).length c':=by
    obtain⟨_,⟨e,hn⟩ | ⟨g,cap,cur,e,_⟩⟩:=hO
    ·exact⟨none,0,by rw[e,hn]⟩
    ·exact⟨_,_,e⟩
   obtain⟨A',c',rfl⟩:=hv;refine⟨A',c',w',hrun,.inr hO,?_,fun _=>.inr hO⟩;refine (Below.refl base w).grown h3 hbase (fun r e => ?_);obtain⟨_,⟨e',_⟩ | ⟨g,cap,cur,e',hg,_⟩⟩:=h
   ·injection e' with e1
    subst e1
    cases e
   ·injection e' with e1
    subst e1;simp[Value.ownBlock] at e;omega
theorem step_appW{ops:Array Oper}{o:Oper}{a:Act}{K:Act→World→Prop}{Q:Exit→Act→World→Prop}{E:Prop}(hgd:o.guard=none)(s x:Operand)
  (ho:o.op=.call { callee:=.builtin .append,args:=#[s,x],argTypes:=#[26,26] })
  (w:World) (base:Nat) (hbase:base≤w.heap.size) (A:Option Addr) (c n:Nat) (l:List Wr) (hn:n=l.length) (h:CanApp w base A c l) (B:Option Addr) (d n':Nat) (k:List Wr) (hn':n'=k.length) (hk:SW w B k) (hl:l.length+k.length≤10000)
  (hs:a.eval s=.slice A n c) (hx:a.eval x=.slice B n' d)
  (hK:∀ A' c' w',CanApp w' base A' c' (l++k)→Below base w w'→(k≠[]∨Mine w base A c l→Mine w' base A' c' (l++k))→K (a.put o.dst (.slice A' (l++k).length c')) w') :
  if Region.wanted o (yielded ops a.tmps)=true then Oper.wp Tryz.prog o a w K Q else E:=by
 subst hn hn';have hw:Region.wanted o (yielded ops a.tmps)=true:=by simp[Region.wanted,hgd]
 rw[if_pos hw];obtain⟨A',c',w',hrun,h2,h3,h4⟩:=run_appW o.type w base hbase A c l h B d k hk hl;unfold Oper.wp execOp;simp only[ho,resolve,invoke,builtin,Sem.run_bind,Sem.run_pure,Result.andThen_ok,List.map_toArray,List.map_cons,List.map_nil,hs,hx,hrun];exact hK A' c' w' h2 h3 h4
theorem wpList_appW{ops:Array Oper}{rest:List Oper}{o:Oper}{a:Act}{Q:Exit→Act→World→Prop}(hgd:o.guard=none)(s x:Operand)
  (ho:o.op=.call { callee:=.builtin .append,args:=#[s,x],argTypes:=#[26,26] })
  (w:World) (base:Nat) (hbase:base≤w.heap.size) (A:Option Addr) (c n:Nat) (l:List Wr) (hn:n=l.length) (h:CanApp w base A c l) (B:Option Addr) (d n':Nat) (k:List Wr) (hn':n'=k.length) (hk:SW w B k) (hl:l.length+k.length≤10000)
  (hs:a.eval s=.slice A n c) (hx:a.eval x=.slice B n' d)
  (hK:∀ A' c' w',CanApp w' base A' c' (l++k)→Below base w w'→(k≠[]∨Mine w base A c l→Mine w' base A' c' (l++k))→wpList Tryz.prog ops Q rest (a.put o.dst (.slice A' (l++k).length c')) w'):wpList Tryz.prog ops Q (o::rest) a w:=by
 subst hn hn'
 refine wpList_plain hgd fun K' hK' => ?_
 obtain⟨A',c',w',hrun,h2,h3,h4⟩:=run_appW o.type w base hbase A c l h B d k hk hl;unfold Oper.wp execOp;simp only[ho,resolve,invoke,builtin,Sem.run_bind,Sem.run_pure,Result.andThen_ok,List.map_toArray,List.map_cons,List.map_nil,hs,hx,hrun];exact hK' _ _ (hK A' c' w' h2 h3 h4)
def CW(w:World)(A:Option Addr)(c:Nat)(l:List Wr):Prop:=SW w A l∧l.length≤c
theorem CW.nil{w:World}{A:Option Addr}{c:Nat}:CW w A c []:=⟨SW.nil,Nat.zero_le _⟩
theorem CanApp.cw{w:World}{base:Nat}{A:Option Addr}{c:Nat}{l:List Wr}(h:CanApp w base A c l):CW w A c l:=by
 refine⟨h.sw,?_⟩
 rcases h with ⟨hc,_⟩ | ⟨_,⟨e,_⟩ | ⟨g,cap,cur,e,_,_,hle,_⟩⟩
 ·omega
 ·injection e with e1 e2 e3;omega
 ·injection e with e1 e2 e3;omega
theorem add_zero_addr(A:Option Addr):A.map (fun a=>a.add 0)=A:=by
 cases A with
 | none=>rfl
 | some a=>obtain⟨b,o,sp⟩:=a;cases sp <;> simp[Addr.add]
theorem SW.take{w:World}{A:Option Addr}{l:List Wr}(h:SW w A l)(i:Nat):SW w A (l.take i):=fun hp=>by
 obtain⟨b,off,e,hb,hc⟩:=h (by rw[flat_length] at hp ⊢;simp at hp;omega);refine⟨b,off,e,hb,fun j x hx=>hc j x ?_⟩;have ht:flat l=flat (l.take i)++flat (l.drop i):=by rw[←flat_append,List.take_append_drop]
 rw[ht,List.getElem?_append_left (List.getElem?_eq_some_iff.1 hx).1];exact hx
theorem SW.drop{w:World}{A:Option Addr}{l:List Wr}(h:SW w A l)(i:Nat):SW w (A.map (fun a=>a.add (i*3))) (l.drop i):=fun hp=>by
 obtain⟨b,off,e,hb,hc⟩:=h (by rw[flat_length] at hp ⊢;simp at hp;omega);have hil:i<l.length:=by rw[flat_length] at hp;simp at hp;omega
 refine⟨b,off+i*3,by rw[e];rcases Nat.eq_zero_or_pos i with h0 | h0 <;> simp[Addr.add,h0];omega,hb,fun j x hx => ?_⟩;have ht:flat l=flat (l.take i)++flat (l.drop i):=by rw[←flat_append,List.take_append_drop]
 have hl:(flat (l.take i)).length=i*3:=by rw[flat_length];simp;omega
 have:=hc (i*3+j) x (by rw[ht,List.getElem?_append_right (by omega),hl];simpa using hx);rw[show off+i*3+j=off+(i*3+j) by omega];exact this
section
variable {w : World} {A : Option Addr} {c : Nat} {l : List Wr}
theorem size_wr(w:World):(sizeOf 106).run Tryz.prog w=.ok 3 w:=by
 obtain⟨i0,hi,hz0,hz1,hz2⟩:=info_parts wrInfo;simp[sizeOf,typeInfo,hi,hz1]
theorem run_pre(A:Option Addr)(c n:Nat)(i:Int)(hi:0≤i)(hc:i≤c)(W:World):(Instr.slice 26 (.slice A n c) none (some (.int .i64 i)) none).run Tryz.prog W=.ok (.slice A i.toNat c) W:=by
 have hs:=size_wr W;simp[Instr.slice,run_underlying Tryz.underlying26,Instr.sliceBounds,Instr.sliceBound,hi,hc,hs,add_zero_addr,asIntOf]
theorem run_full(A:Option Addr)(c n:Nat)(i:Int)(hi:0≤i)(hc:i≤c)(W:World):(Instr.slice 26 (.slice A n c) none (some (.int .i64 i)) (some (.int .i64 i))).run Tryz.prog W=.ok (.slice A i.toNat i.toNat) W:=by
 have hs:=size_wr W;simp[Instr.slice,run_underlying Tryz.underlying26,Instr.sliceBounds,Instr.sliceBound,hi,hc,hs,add_zero_addr,asIntOf];intro h;omega
theorem run_suf(A:Option Addr)(c n:Nat)(i:Int)(hi:0≤i)(hn:i≤n)(W:World) :
  (Instr.slice 26 (.slice A n c) (some (.int .i64 i)) none none).run Tryz.prog W=.ok (.slice (if c=i.toNat then A else A.map (fun a=>a.add (i.toNat*3))) (n - i.toNat) (c - i.toNat)) W:=by
 have hs:=size_wr W;simp[Instr.slice,run_underlying Tryz.underlying26,Instr.sliceBounds,Instr.sliceBound,hi,hn,hs,asIntOf]
theorem CW.suf(h:CW w A c l)(i:Nat)(hi:i≤l.length):CW w (if c=i then A else A.map (fun a=>a.add (i*3))) (c - i) (l.drop i):=by
 refine⟨?_,by simp;have:=h.2;omega⟩
 by_cases e:c=i
 ·rw[if_pos e,List.drop_eq_nil_of_le (by have:=h.2;omega)]
  exact SW.nil
 ·rw[if_neg e]
  exact h.1.drop i
end
end Go.Proofs.YthijbipidbjpfaaGreatDoor
namespace Go.Proofs.YthijbipidbjpfaaGreatDoor
open Go.RowKit Go.Maps
open Go.Shelf
attribute [local go_sem] Oper.semAt_some
theorem appendSeq_in(F:Fence)(n:Nat)(h11:F.fn 193)(hro:F.round=none)(hn:2≤n)(gf:Nat)(lb:Array Value)(hFg:F.fn gf)(eg:∀ args w,(callFunc gf args).run Tryz.prog w=.ok (.enter gf args) w)
  (S Sp:List Int→Prop) (N:Nat) (hN:N≤1000) (w:World) (hseq:SeqStopsK F (n - 1) Tryz.prog gf lb (fun x:Int=>#[.int .i64 x]) (Below w.heap.size) S Sp N w) :
  CallsIn F n Tryz.prog 193 #[.slice none 0 0,.func (.func gf) #[] lb] w fun e w'=>∃ (v:Value) (ss:List Int),e=.returned v∧S ss∧w'.ownsRow w.heap.size 3 1 v ss.length (ss.map (.int .i64))∧Below w.heap.size w w':=by
 have h1:1≤n:=by omega
 obtain⟨i0,hi0,hz0,hz1,hz2⟩:=info_parts intInfo;refine callsIn_of_wp_marks Tryz.func193 rfl h11 ?_ hro;simp only[Tryz.ntmps193,List.size_toArray,List.length_cons,List.length_nil,Nat.reduceAdd,Nat.reduceSub,Array.replicate_succ,Array.replicate_zero,List.push_toArray,List.append_toArray,List.nil_append,List.cons_append]
 gi_wp2
 obtain⟨W0,hW0⟩:∃ W0,w.alloc (.cells #[.slice none 0 0] 22)=W0:=⟨_,rfl⟩;have hb0:Below w.heap.size w W0:=by rw[←hW0];exact(Below.refl _ w).alloc (Nat.le_refl _) _
 have hv0:Boxed W0 w.heap.size 22 (.slice none 0 0):=by rw[←hW0];exact Boxed.new _ _ _
 have hs0:W0.heap.size=w.heap.size+1:=by rw[←hW0];simp
 rw[hW0];clear hW0;refine wpIn_rangeFunc_ownF hro h1 (gf:=gf) (lb:=lb) rfl hFg eg hseq belowK_t (belowK_b (by omega)) hb0 (fun _=>rfl)
  (fun pre W=>(∃ v,Boxed W w.heap.size 22 v∧W.ownsRow w.heap.size 3 1 v pre.length (pre.map (.int .i64))∧True)∧Below w.heap.size w W)
  (fun _ _ _=>False)
  (OwnFrom.and (Own.from (holdsRow_own w.heap.size w.heap.size 22 3 1 (fun pre:List Int=>pre.length) (fun pre=>pre.map (.int .i64)) (fun _ _=>True)) _) (ownFrom_below (Nat.le_refl _) (by omega)))
  (fun _ _ _ _ _ hs _ _=>hs)
  ⟨⟨_,hv0,World.ownsRow_nil _ _ _ _,trivial⟩,hb0⟩
  (fun x=>{ tmps:=#[.slice none 0 0,.func (.func gf) #[] lb,.pointer (some ⟨w.heap.size,0,none⟩),undef,.slice none 0 0,.int .i64 x,.func (.func gf) #[] lb,.int .i64 x,undef,undef,undef,undef,undef],defers:=[] })
  ?assign ?body ?done ?stop
 case assign=>
  intro l x W K hK
  gi_wp2
  exact hK
 case body=>
  rintro l pre x W ⟨⟨v,hv,hrow,_⟩,hB⟩ hlt;have hc:=hv.cell
  gi_wp2_with (gi_at_builtin;refine wpListIn_append_own _ rfl _ _ 22 rfl w.heap.size 3 i0 (.int .i64 0) 1 8 Tryz.underlying22 hi0 hz0 hz1 hz2 rfl (by decide) _ _ _ rfl (hrow.alloc _) ⟨W.heap.size,0,none⟩ 1 1 [.int .i64 x] rfl rfl (cell_one_new _ _ _) (by simp[Value.oneCell']) (by unfold maxLen;omega) (by omega) (by have:=hB.size;simp;omega) ?_;intro v' w1 hown' hgrow _;obtain⟨g',cap',rfl⟩:=ownsRow_succ hown';obtain⟨hv1,hv2,hr2,hk2,hb2⟩:=hv.appended (by decide) hrow hB.size (Nat.le_refl _) hown' hgrow;have hc1:=hv1.cell;have hf1:=hv1.frozen)
  exact⟨hk2,hb2,⟨_,hv2,by simpa using hr2,trivial⟩,hB.trans hb2⟩
 case done=>
  rintro D xs W hD hS ⟨⟨v,hv,hrow,_⟩,hB⟩ hK;have hc:=hv.cell
  gi_wp2
  refine⟨by simp,.inl ⟨_,_,rfl,run_takeDeferred hK,?_⟩⟩;exact⟨_,results_tmp rfl _ _ _,v,xs,rfl,hS,ownsRow_putObj hrow _ hK rfl,hB.trans (belowK_b (w:=w) (Nat.le_refl _) W D _ _ (by omega) hK rfl rfl)⟩
 case stop=>
  rintro D c pre W _ _ h _;exact h.elim
end Go.Proofs.YthijbipidbjpfaaGreatDoor
namespace Go.Proofs.YthijbipidbjpfaaGreatDoor
open Go.RowKit Go.Maps
open Go.Shelf Go.Sort
attribute [local go_sem] Oper.semAt_some
def sortRho:Go.Shelf.Ren where
 f:=fun n=>if n=5 then 172 else if n=7 then 194 else if n=8 then 195 else if n=10 then 198 else if n=11 then 199 else if n=12 then 200 else if n=13 then 201 else if n=14 then 202 else if n=15 then 203 else if n=16 then 204 else if n=17 then 205 else if n=18 then 206 else if n=19 then 207 else if n=20 then 208 else if n=30 then 209 else if n=31 then 210 else if n=32 then 211 else if n=33 then 212 else if n=34 then 213 else if n=35 then 214 else if n=40 then 215 else n
 t:=fun n=>if n=23 then 22 else if n=25 then 3 else if n=3 then 3 else if n=32 then 214 else if n=22 then 22 else if n=0 then 0 else if n=44 then 211 else if n=46 then 36 else if n=4 then 4 else if n=36 then 242 else if n=35 then 241 else if n=41 then 187 else if n=5 then 5 else if n=9 then 9 else if n=53 then 249 else if n=57 then 253 else if n=63 then 255 else if n=64 then 256 else n
 g:=fun n=>n
theorem sortLays:SlLaysM.n5 Tryz.prog sortRho where
 mixed:=by kernel_rfl
 f5:=⟨Tryz.f172.name,by kernel_rfl,by kernel_rfl⟩
 f7:=⟨Tryz.f194.name,by kernel_rfl,by kernel_rfl⟩
 f8:=by kernel_rfl
 f10:=⟨Tryz.f198.name,by kernel_rfl,by kernel_rfl⟩
 f11:=⟨Tryz.f199.name,by kernel_rfl,by kernel_rfl⟩
 f12:=⟨Tryz.f200.name,by kernel_rfl,by kernel_rfl⟩
 f13:=⟨Tryz.f201.name,by kernel_rfl,by kernel_rfl⟩
 f14:=⟨Tryz.f202.name,by kernel_rfl,by kernel_rfl⟩
 f15:=⟨Tryz.f203.name,by kernel_rfl,by kernel_rfl⟩
 f16:=⟨Tryz.f204.name,by kernel_rfl,by kernel_rfl⟩
 f17:=⟨Tryz.f205.name,by kernel_rfl,by kernel_rfl⟩
 f18:=⟨Tryz.f206.name,by kernel_rfl,by kernel_rfl⟩
 f19:=by kernel_rfl
 f20:=by kernel_rfl
 f30:=⟨Tryz.f209.name,by kernel_rfl,by kernel_rfl⟩
 f31:=by kernel_rfl
 f32:=by kernel_rfl
 f33:=⟨Tryz.f212.name,by kernel_rfl,by kernel_rfl⟩
 f34:=⟨Tryz.f213.name,by kernel_rfl,by kernel_rfl⟩
 f35:=⟨Tryz.f214.name,by kernel_rfl,by kernel_rfl⟩
 f40:=⟨Tryz.f215.name,by kernel_rfl,by kernel_rfl⟩
 t0:=by kernel_rfl
 a0:=fun _=>by kernel_rfl
 z0:=fun _=>by kernel_rfl
 v0:=fun _=>by kernel_rfl
 t3:=by kernel_rfl
 a3:=fun _=>by kernel_rfl
 z3:=fun _=>by kernel_rfl
 v3:=fun _=>by kernel_rfl
 t4:=by kernel_rfl
 a4:=fun _=>by kernel_rfl
 z4:=fun _=>by kernel_rfl
 v4:=fun _=>by kernel_rfl
 t5:=by kernel_rfl
 a5:=fun _=>by kernel_rfl
 z5:=fun _=>by kernel_rfl
 v5:=fun _=>by kernel_rfl
 t9:=by kernel_rfl
 a9:=fun _=>by kernel_rfl
 z9:=fun _=>by kernel_rfl
 v9:=fun _=>by kernel_rfl
 t22:=by kernel_rfl
 a22:=fun _=>by kernel_rfl
 z22:=fun _=>by kernel_rfl
 v22:=fun _=>by kernel_rfl
 t23:=by kernel_rfl
 a23:=fun _=>by kernel_rfl
 z23:=fun _=>by kernel_rfl
 v23:=fun _=>by kernel_rfl
 t25:=by kernel_rfl
 a25:=fun _=>by kernel_rfl
 z25:=fun _=>by kernel_rfl
 v25:=fun _=>by kernel_rfl
 t32:=by kernel_rfl
 a32:=fun _=>by kernel_rfl
 z32:=fun _=>by kernel_rfl
 v32:=fun _=>by kernel_rfl
 t35:=by kernel_rfl
 a35:=fun _=>by kernel_rfl
 z35:=fun _=>by kernel_rfl
 v35:=fun _=>by kernel_rfl
 t36:=by kernel_rfl
 a36:=fun _=>by kernel_rfl
 z36:=fun _=>by kernel_rfl
 v36:=fun _=>by kernel_rfl
 t41:=by kernel_rfl
 a41:=fun _=>by kernel_rfl
 z41:=fun _=>by kernel_rfl
 v41:=fun _=>by kernel_rfl
 t44:=by kernel_rfl
 a44:=fun _=>by kernel_rfl
 z44:=fun _=>by kernel_rfl
 v44:=fun _=>by kernel_rfl
 t46:=by kernel_rfl
 a46:=fun _=>by kernel_rfl
 z46:=fun _=>by kernel_rfl
 v46:=fun _=>by kernel_rfl
 t53:=by kernel_rfl
 a53:=fun _=>by kernel_rfl
 z53:=fun _=>by kernel_rfl
 v53:=fun _=>by kernel_rfl
 t57:=by kernel_rfl
 a57:=fun _=>by kernel_rfl
 z57:=fun _=>by kernel_rfl
 v57:=fun _=>by kernel_rfl
 t63:=by kernel_rfl
 a63:=fun _=>by kernel_rfl
 z63:=fun _=>by kernel_rfl
 v63:=fun _=>by kernel_rfl
 t64:=by kernel_rfl
 a64:=fun _=>by kernel_rfl
 z64:=fun _=>by kernel_rfl
 v64:=fun _=>by kernel_rfl
theorem sort_any(blk off cap:Nat)(zs:List Int)(w:World)(hH:Holds (Value.int .i64) w blk off zs.toArray)(hblk:blk<w.heap.size)(hsz:zs.length<4611686018427387904) :
  Calls Tryz.prog 172 #[.slice (some ⟨blk,off,none⟩) zs.length cap] w fun e w'=>
   e=.returned (.tuple #[])∧∃ n os,w'=grow (putRow (Value.int .i64) (Sort.ahead w n) blk off (zs.mergeSort fun x y=>decide (x≤y)).toArray) os:=
 AnyM.slices_Sort_int sortLays blk off cap zs w hH hblk hsz
theorem sort_none(p:Option Addr)(cap:Nat)(w:World):Calls Tryz.prog 172 #[.slice p 0 cap] w fun e w'=>e=.returned (.tuple #[])∧w'=w:=
 AnyM.slices_Sort_int_none sortLays p cap w
attribute [local go_sem] Oper.semAt_some
theorem values_any(A:Option Addr)(m c:Nat)(w:World) :
  Calls Tryz.prog 130 #[.slice A m c] w fun e w'=>
   e=.returned (.func (.func 173) #[] #[.pointer (some ⟨w.heap.size,0,none⟩)])∧w'=w.alloc (.cells #[.slice A m c] 22):=by
 go_enter Tryz.func130,Tryz.ntmps130
 go_wp2
 go_ret;exact⟨rfl,rfl⟩
theorem values1_in(F:Fence)(n:Nat)(h6:F.fn 173)(hro:F.round=none)(hn:1≤n)(lp B:Nat)(A:Option Addr)(c:Nat)(xs:List Int)(w:World)(hs:Sl w (.int .i64) A xs)(lx:xs.length≤1000)(J Jx:List Int→World→Prop)
  (hY:∀ pre x W,J pre W→pre.length<xs.length→YieldAt F (n - 1) Tryz.prog lp #[.int .i64 x] W fun e W'=>
   (e=.returned (.bool true)∧J (pre++[x]) W'∧Below w.heap.size W W')∨(e=.returned (.bool false)∧Jx (pre++[x]) W'))
  (W:World) (hW:Below w.heap.size w W) (hB:Blk w B 22 #[.slice A xs.length c]) (h0:J [] W) :
  CallsIn F n Tryz.prog 173 #[.func (.yield lp) #[] #[],.pointer (some ⟨B,0,none⟩)] W fun e W'=>(∃ v,e=.returned v) ∧
   ((∃ ys,ys=xs∧J ys W')∨(∃ pre,pre <+: xs∧Jx pre W')):=by
 have HS:=Lib.hid hs;have hBl:=hB.lt;have c0:=(hB.below_ hW hBl).cell_ 0;simp at c0;clear hs;refine callsIn_of_wp Tryz.func173 rfl h6 ?_ hro;simp only[Tryz.ntmps173,List.size_toArray,List.length_cons,List.length_nil,Nat.reduceAdd,Nat.reduceSub,Array.replicate_succ,Array.replicate_zero,List.push_toArray,List.append_toArray,List.nil_append,List.cons_append]
 gi_wp2
 gi_loopw [7] (fun i wr=>∃ k:Nat,k≤xs.length∧i=.int .i64 k∧J (xs.take k) wr∧Below w.heap.size w wr) (fun i _=>xs.length - (intOf i).toNat)
 case atStart=>exact⟨0,by omega,rfl,h0,hW⟩
 case round=>
  obtain⟨k,hk,rfl,hj,hbw⟩:=hrel
  by_cases hlt:k<xs.length
  ·obtain⟨b,off,x,rfl,hbl,hx,q0⟩:=(HS.out.ext hbw).at_ hlt
   have i1:(k:Int)<xs.length:=by omega
   have hfr:Hid (xs.take (k+1)=xs.take k++[x]):=by
    show _=_;obtain⟨hk',rfl⟩:=List.getElem?_eq_some_iff.1 hx;rw[List.take_succ_eq_append_getElem hk']
   have hpre:Hid (xs.take k++[x] <+: xs):=by
    show _ <+: _;rw[←hfr.out];exact List.take_prefix _ _
   clear hx;obtain⟨fn1,tmps1,assign1,body1,hy1,hR1⟩:=hY _ x wr hj (by simp;omega)
   gi_wp2
   refine hR1.mono ?_;clear hR1 hy1;rintro e W2 (⟨rfl,j2,k2⟩ | ⟨rfl,jx⟩)
   ·gi_wp2
    go_roundw
    case rel=>exact⟨k+1,by omega,by go_num,by rw[hfr.out];exact j2,hbw.trans k2⟩
    case measure=>simp[intOf];omega
   ·gi_wp2
    refine bodyPost_ret (results_none rfl _ _ _) rfl ?_;exact⟨⟨_,rfl⟩,.inr ⟨_,hpre.out,jx⟩⟩
  ·have hd:xs.take k=xs:=List.take_of_length_le (by omega)
   have hj':=hj;rw[hd] at hj';clear hd
   gi_wp2
   go_end0
   exact⟨⟨_,rfl⟩,.inl ⟨_,rfl,hj'⟩⟩
theorem values_stops(F:Fence)(n:Nat)(h6:F.fn 173)(hro:F.round=none)(hn:1≤n)(B:Nat)(A:Option Addr)(c:Nat)(xs:List Int)(w:World)(hs:Sl w (.int .i64) A xs)(lx:xs.length≤1000)(hB:Blk w B 22 #[.slice A xs.length c]) :
  SeqStopsK F n Tryz.prog 173 #[.pointer (some ⟨B,0,none⟩)] (fun x:Int=>#[.int .i64 x]) (Below w.heap.size) (fun ys=>ys=xs) (fun pre=>pre <+: xs) xs.length w:=fun l J Jx W hW _ _ hY h0=>
 values1_in F n h6 hro hn l B A c xs w hs lx J Jx hY W hW hB h0
theorem collect_in(F:Fence)(n:Nat)(h8:F.fn 171)(h11:F.fn 193)(hro:F.round=none)(hn:3≤n)(gf:Nat)(lb:Array Value)(hFg:F.fn gf)(eg:∀ args w,(callFunc gf args).run Tryz.prog w=.ok (.enter gf args) w)
  (S Sp:List Int→Prop) (N:Nat) (hN:N≤1000) (w:World) (hseq:SeqStopsK F (n - 1 - 1) Tryz.prog gf lb (fun x:Int=>#[.int .i64 x]) (Below w.heap.size) S Sp N w) :
  CallsIn F n Tryz.prog 171 #[.func (.func gf) #[] lb] w fun e w'=>∃ (v:Value) (ss:List Int),e=.returned v∧S ss∧w'.ownsRow w.heap.size 3 1 v ss.length (ss.map (.int .i64))∧Below w.heap.size w w':=by
 have h1:1≤n:=by omega
 refine callsIn_of_wp Tryz.func171 rfl h8 ?_ hro;simp only[Tryz.ntmps171,List.size_toArray,List.length_cons,List.length_nil,Nat.reduceAdd,Nat.reduceSub,Array.replicate_succ,Array.replicate_zero,List.push_toArray,List.append_toArray,List.nil_append,List.cons_append]
 gi_wp2_with (gi_at_call 193;refine (appendSeq_in F (n - 1) h11 hro (by omega) gf lb hFg eg S Sp N hN _ hseq).mono ?_;rintro e w' ⟨v,ss,rfl,hS,hrow,hb⟩)
 go_ret;exact⟨v,ss,rfl,hS,hrow,hb⟩
def srt(ss:List Int):List Int:=ss.mergeSort fun x y=>decide (x≤y)
theorem sorted_w(n:Nat)(hn:4≤n)(gf:Nat)(lb:Array Value)(eg:∀ args w,(callFunc gf args).run Tryz.prog w=.ok (.enter gf args) w)
  (S Sp:List Int→Prop) (N:Nat) (hN:N≤1000) (hSN:∀ ss,S ss→ss.length≤1000) (w:World) (hseq:SeqStopsK Fence.wide (n - 1 - 1 - 1) Tryz.prog gf lb (fun x:Int=>#[.int .i64 x]) (Below w.heap.size) S Sp N w) :
  CallsIn Fence.wide n Tryz.prog 129 #[.func (.func gf) #[] lb] w fun e w'=>∃ A c ss,e=.returned (.slice A ss.length c)∧S ss∧Sl w' (.int .i64) A (srt ss)∧Below w.heap.size w w':=by
 have h1:1≤n:=by omega
 refine callsIn_of_wp Tryz.func129 rfl trivial ?_ rfl;simp only[Tryz.ntmps129,List.size_toArray,List.length_cons,List.length_nil,Nat.reduceAdd,Nat.reduceSub,Array.replicate_succ,Array.replicate_zero,List.push_toArray,List.append_toArray,List.nil_append,List.cons_append];have hfc:Fence.wide.fn 171:=trivial;have hfs:Fence.wide.fn 172:=trivial
 gi_wp2_with (gi_at_call 171;refine (collect_in Fence.wide (n - 1) trivial trivial rfl (by omega) gf lb trivial eg S Sp N hN _ hseq).mono ?_;rintro e W ⟨v,ss,rfl,hS,hrow,hb⟩)
 rcases hrow.2 with ⟨rfl,hz⟩ | ⟨gb,cap,cur,rfl,hbase,hgb,r1,r2,r3,r4⟩
 ·have hss:ss=[]:=List.eq_nil_of_length_eq_zero hz
  subst hss
  gi_wp2_with (gi_at_call 172;refine (callsIn_wide.2 (sort_none none 0 W)).mono ?_;rintro e w' ⟨rfl,rfl⟩)
  go_ret;exact⟨none,0,[],rfl,hS,by simp[srt];exact Sl.nil,hb⟩
 ·have hH:Holds (Value.int .i64) W gb 0 ss.toArray:=holds_of_block_i hgb (by simpa using r4)
  have hgl:gb<W.heap.size:=(Array.getElem?_eq_some_iff.1 hgb).1;have hsz:ss.length<4611686018427387904:=by have:=hSN ss hS;omega
  have cS:=callsIn_wide (n:=n - 1).2 (sort_any gb 0 cap ss W hH hgl hsz)
  gi_wp2_with (gi_at_call 172;refine cS.mono ?_;rintro e w' ⟨rfl,nn,os,rfl⟩)
  go_ret;have hsl:(srt ss).length=ss.length:=by simp[srt]
  have ho:=ownsRow_sorted_i (n:=nn) (os:=os) (ts:=srt ss) hsl hbase hgb r1 r2 r3
  have hO:Own (grow (putRow (Value.int .i64) (Sort.ahead W nn) gb 0 (srt ss).toArray) os) w.heap.size 3 (.int .i64) (.slice (some ⟨gb,0,none⟩) ss.length cap) (srt ss):=by
   show World.ownsRow _ _ _ _ _ _ _;rw[hsl];exact ho
  obtain⟨A',c',e',hs'⟩:=hO.sl;injection e' with e1 e2 e3
  subst e1 e3;exact⟨_,cap,ss,rfl,hS,hs',hb.grown (grownBy_sorted_i _) hb.size (fun j hj=>by cases hj;exact hbase)⟩
theorem sortedV_any(B:Nat)(A:Option Addr)(c:Nat)(xs:List Int)(W:World)(hs:Sl W (.int .i64) A xs)(lx:xs.length≤1000)(hB:Blk W B 22 #[.slice A xs.length c]) :
  Calls Tryz.prog 129 #[.func (.func 173) #[] #[.pointer (some ⟨B,0,none⟩)]] W fun e w'=>∃ A' c',e=.returned (.slice A' xs.length c')∧Sl w' (.int .i64) A' (srt xs)∧Below W.heap.size W w':=by
 have hseq:=values_stops Fence.wide 2 trivial rfl (by omega) B A c xs W hs lx hB;refine (callsIn_wide (n:=5)).1 ((sorted_w 5 (by omega) 173 #[.pointer (some ⟨B,0,none⟩)] (enters_of Tryz.func173 (by kernel_rfl) rfl) _ _ _ lx (fun ss h=>by rw[h];exact lx) W hseq).mono ?_);rintro e w' ⟨A',c',ss,rfl,rfl,h,hb⟩;exact⟨A',c',rfl,h,hb⟩
end Go.Proofs.YthijbipidbjpfaaGreatDoor
