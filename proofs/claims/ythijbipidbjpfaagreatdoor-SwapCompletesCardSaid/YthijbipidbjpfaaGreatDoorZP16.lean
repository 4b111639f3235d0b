import Derived.Test.YthijbipidbjpfaaGreatDoorZP15
import Derived.Test.YthijbipidbjpfaaGreatDoorZP06
import Derived.Test.YthijbipidbjpfaaGreatDoorZP01
import Derived.Test.YthijbipidbjpfaaGreatDoorZP11
import Derived.Test.YthijbipidbjpfaaGreatDoorZP02
import Derived.Test.YthijbipidbjpfaaGreatDoorZP00
import Derived.Test.YthijbipidbjpfaaGreatDoorZP03
import Derived.Test.YthijbipidbjpfaaGreatDoorZP08
set_option linter.unusedSimpArgs false
set_option linter.unusedVariables false
set_option maxRecDepth 100000
set_option maxHeartbeats 8000000
namespace Go.Proofs.YthijbipidbjpfaaGreatDoor
open Go.RowKit Go.Maps
theorem EqI_any(A B:Option Addr)(c d:Nat)(l m:List Int)(w:World)(ha:SR intE w A l)(hv:SR intE w B m)(la:l.length≤1000)(lv:m.length≤1000) :
  Calls Tryz.prog 128 #[.slice A l.length c,.slice B m.length d] w fun e w'=>e=.returned (.bool (decide (l=m)))∧Below w.heap.size w w':=by
 have HA:=Lib.hid ha;have HV:=Lib.hid hv;obtain⟨R,hR⟩:∃ R,decide (l=m)=R:=⟨_,rfl⟩;rw[hR]
 by_cases hlen:l.length=m.length
 ·obtain⟨n,hn⟩:∃ n,l.length=n:=⟨_,rfl⟩
  rw[hn];have HM:Hid (m.length=n):=by show _=_;omega
  rw[HM.out];have HN:=Lib.hid hn;have HR:=Lib.hid hR;have la':n≤1000:=by omega
  clear ha hv hn hR la lv hlen
  go_enter Tryz.func128,Tryz.ntmps128
  go_wp2_with fail
  go_loopw [13] (fun i wr=>∃ k:Nat,k≤n∧i=.int .i64 k∧Hid (l.take k=m.take k)∧Below w.heap.size w wr) (fun i _=>n - (intOf i).toNat)
  case atStart=>exact⟨0,by omega,rfl,(by show _=_;rfl),Below.refl _ _⟩
  case round=>
   obtain⟨k,hk,rfl,HP,hb⟩:=hrel
   by_cases hlt:k<n
   ·have i1:(k:Int)<n:=by omega
    obtain⟨b,off,x,rfl,hbl,hx,hc⟩:=(HA.out.ext hb).at_ (k:=k) (by rw[HN.out];exact hlt);obtain⟨b2,off2,y,rfl,hbl2,hy,hc2⟩:=(HV.out.ext hb).at_ (k:=k) (by rw[HM.out];exact hlt);have HX:=Lib.hid hx;have HY:=Lib.hid hy;have z1:(intE).sz=1:=rfl;have a0:wr.cell? ⟨b,off+k,none⟩=some (.int .i64 x):=by simpa [z1] using hc 0 _ rfl
    have a1:wr.cell? ⟨b2,off2+k,none⟩=some (.int .i64 y):=by simpa [z1] using hc2 0 _ rfl
    have hS:wr.drew.cell? ⟨b,off+k,none⟩=some (.int .i64 x)∧wr.drew.cell? ⟨b2,off2+k,none⟩=some (.int .i64 y):=⟨a0,a1⟩;clear hx hy hc hc2 a0 a1 z1
    by_cases e:x=y
    ·subst e
     have HQ:Hid (l.take (k+1)=m.take (k+1)):=by show _=_;rw[List.take_add_one,List.take_add_one,HX.out,HY.out,HP.out]
     go_wp2_with fail;refine wp_region_held_drew (S:=fun W=>W.cell? ⟨b,off+k,none⟩=some (.int .i64 x)∧W.cell? ⟨b2,off2+k,none⟩=some (.int .i64 x)) (by kernel_rfl) ?_ (fun hHeld => ?_)
     ·exact hS
     refine zht 0 ?_;refine zht 1 ?_;refine zht 2 ?_;refine zht 3 ?_;refine zht 4 ?_;refine zht 5 ?_;refine zht 6 ?_;refine zht 7 ?_;refine zht 8 ?_;refine wpAnyH_done (by kernel_rfl) ?_ _;go_wp2_with fail
     go_roundw
     case rel=>exact⟨k+1,by omega,by go_num,HQ,hb.drew⟩
     case measure=>simp[intOf];omega
    ·have hxy:(x != y)=true:=by simpa using e
     have hxy2:(x == y)=false:=by simpa using e
     have HE:Hid (R=false):=by
      show _=_;rw[←HR.out];simp only[decide_eq_false_iff_not];intro h;subst h;have:=HX.out.symm.trans HY.out;injection this with this
      exact e this
     go_wp2_with fail;refine wp_region_held_drew (S:=fun W=>W.cell? ⟨b,off+k,none⟩=some (.int .i64 x)∧W.cell? ⟨b2,off2+k,none⟩=some (.int .i64 y)) (by kernel_rfl) ?_ (fun hHeld => ?_)
     ·exact hS
     refine zht 0 ?_;refine zht 1 ?_;refine zht 2 ?_;refine zht 3 ?_;refine zht 4 ?_;refine zht 5 ?_;refine zht 6 ?_;refine zht 7 ?_;refine zht 8 ?_;refine wpAnyH_done (by kernel_rfl) ?_ _;go_wp2_with fail;go_ret;refine⟨?_,hb.drew⟩;rw[HE.out];rfl
   ·obtain rfl:k=n:=by omega
    have HE:Hid (R=true):=by
     show _=_;rw[←HR.out];have h:=HP.out;rw[List.take_of_length_le (by rw[HN.out];exact Nat.le_refl _),List.take_of_length_le (by rw[HM.out];exact Nat.le_refl _)] at h;simpa using h
    go_wp2_with fail;go_ret;refine⟨?_,hb⟩;rw[HE.out];rfl
 ·have hne:((l.length:Int) != (m.length:Int))=true:=by simpa using (by omega:¬ (l.length:Int)=m.length)
  have HE:Hid (R=false):=by
   show _=_;rw[←hR];simp only[decide_eq_false_iff_not];intro h;exact hlen (by rw[h])
  clear ha hv hR hlen
  go_enter Tryz.func128,Tryz.ntmps128
  go_wp2_with fail;go_ret;refine⟨?_,Below.refl _ _⟩;rw[HE.out];rfl
theorem EqB_any(A B:Option Addr)(c d:Nat)(l m:List Bool)(w:World)(ha:SR boolE w A l)(hv:SR boolE w B m)(la:l.length≤1000)(lv:m.length≤1000) :
  Calls Tryz.prog 126 #[.slice A l.length c,.slice B m.length d] w fun e w'=>e=.returned (.bool (decide (l=m)))∧Below w.heap.size w w':=by
 have HA:=Lib.hid ha;have HV:=Lib.hid hv;obtain⟨R,hR⟩:∃ R,decide (l=m)=R:=⟨_,rfl⟩;rw[hR]
 by_cases hlen:l.length=m.length
 ·obtain⟨n,hn⟩:∃ n,l.length=n:=⟨_,rfl⟩
  rw[hn];have HM:Hid (m.length=n):=by show _=_;omega
  rw[HM.out];have HN:=Lib.hid hn;have HR:=Lib.hid hR;have la':n≤1000:=by omega
  clear ha hv hn hR la lv hlen
  go_enter Tryz.func126,Tryz.ntmps126
  go_wp2_with fail
  go_loopw [13] (fun i wr=>∃ k:Nat,k≤n∧i=.int .i64 k∧Hid (l.take k=m.take k)∧Below w.heap.size w wr) (fun i _=>n - (intOf i).toNat)
  case atStart=>exact⟨0,by omega,rfl,(by show _=_;rfl),Below.refl _ _⟩
  case round=>
   obtain⟨k,hk,rfl,HP,hb⟩:=hrel
   by_cases hlt:k<n
   ·have i1:(k:Int)<n:=by omega
    obtain⟨b,off,x,rfl,hbl,hx,hc⟩:=(HA.out.ext hb).at_ (k:=k) (by rw[HN.out];exact hlt);obtain⟨b2,off2,y,rfl,hbl2,hy,hc2⟩:=(HV.out.ext hb).at_ (k:=k) (by rw[HM.out];exact hlt);have HX:=Lib.hid hx;have HY:=Lib.hid hy;have z1:(boolE).sz=1:=rfl;have a0:wr.cell? ⟨b,off+k,none⟩=some (.bool x):=by simpa [z1] using hc 0 _ rfl
    have a1:wr.cell? ⟨b2,off2+k,none⟩=some (.bool y):=by simpa [z1] using hc2 0 _ rfl
    have hS:wr.drew.cell? ⟨b,off+k,none⟩=some (.bool x)∧wr.drew.cell? ⟨b2,off2+k,none⟩=some (.bool y):=⟨a0,a1⟩;clear hx hy hc hc2 a0 a1 z1
    by_cases e:x=y
    ·subst e
     have HQ:Hid (l.take (k+1)=m.take (k+1)):=by show _=_;rw[List.take_add_one,List.take_add_one,HX.out,HY.out,HP.out]
     go_wp2_with fail;refine wp_region_held_drew (S:=fun W=>W.cell? ⟨b,off+k,none⟩=some (.bool x)∧W.cell? ⟨b2,off2+k,none⟩=some (.bool x)) (by kernel_rfl) ?_ (fun hHeld => ?_)
     ·exact hS
     refine zht 0 ?_;refine zht 1 ?_;refine zht 2 ?_;refine zht 3 ?_;refine zht 4 ?_;refine zht 5 ?_;refine zht 6 ?_;refine zht 7 ?_;refine zht 8 ?_;refine wpAnyH_done (by kernel_rfl) ?_ _;go_wp2_with fail
     go_roundw
     case rel=>exact⟨k+1,by omega,by go_num,HQ,hb.drew⟩
     case measure=>simp[intOf];omega
    ·have hxy:(x != y)=true:=by simpa using e
     have hxy2:(x == y)=false:=by simpa using e
     have HE:Hid (R=false):=by
      show _=_;rw[←HR.out];simp only[decide_eq_false_iff_not];intro h;subst h;have:=HX.out.symm.trans HY.out;injection this with this
      exact e this
     go_wp2_with fail;refine wp_region_held_drew (S:=fun W=>W.cell? ⟨b,off+k,none⟩=some (.bool x)∧W.cell? ⟨b2,off2+k,none⟩=some (.bool y)) (by kernel_rfl) ?_ (fun hHeld => ?_)
     ·exact hS
     refine zht 0 ?_;refine zht 1 ?_;refine zht 2 ?_;refine zht 3 ?_;refine zht 4 ?_;refine zht 5 ?_;refine zht 6 ?_;refine zht 7 ?_;refine zht 8 ?_;refine wpAnyH_done (by kernel_rfl) ?_ _;go_wp2_with fail;go_ret;refine⟨?_,hb.drew⟩;rw[HE.out];rfl
   ·obtain rfl:k=n:=by omega
    have HE:Hid (R=true):=by
     show _=_;rw[←HR.out];have h:=HP.out;rw[List.take_of_length_le (by rw[HN.out];exact Nat.le_refl _),List.take_of_length_le (by rw[HM.out];exact Nat.le_refl _)] at h;simpa using h
    go_wp2_with fail;go_ret;refine⟨?_,hb⟩;rw[HE.out];rfl
 ·have hne:((l.length:Int) != (m.length:Int))=true:=by simpa using (by omega:¬ (l.length:Int)=m.length)
  have HE:Hid (R=false):=by
   show _=_;rw[←hR];simp only[decide_eq_false_iff_not];intro h;exact hlen (by rw[h])
  clear ha hv hR hlen
  go_enter Tryz.func126,Tryz.ntmps126
  go_wp2_with fail;go_ret;refine⟨?_,Below.refl _ _⟩;rw[HE.out];rfl
structure Lay where
 a0:Option Addr
 c0:Nat
 a1:Option Addr
 c1:Nat
 a2:Option Addr
 c2:Nat
 a3:Option Addr
 c3:Nat
 a4:Option Addr
 c4:Nat
 a5:Option Addr
 c5:Nat
 a6:Option Addr
 c6:Nat
 a7:Option Addr
 c7:Nat
def Lay.zero:Lay:=⟨none,0,none,0,none,0,none,0,none,0,none,0,none,0,none,0⟩
def swC(L:Lay)(s:Swp):List Value:=[.int .i64 s.cap,.slice L.a0 s.sl.refs.length L.c0,.slice L.a1 s.sl.busy.length L.c1,.slice L.a2 s.wr.length L.c2,.slice L.a3 s.rd.length L.c3,.slice L.a4 s.desc.length L.c4,.slice L.a5 s.dk.cells.length L.c5,.slice L.a6 s.dk.jobs.length L.c6,.int .i64 s.dk.room,.int .i64 s.po.size,.slice L.a7 s.po.free.length L.c7]
def swV(L:Lay)(s:Swp):Value:=.agg (swC L s).toArray
structure SwR (w:World) (L:Lay) (s:Swp):Prop where
 r0:SR intE w L.a0 s.sl.refs
 r1:SR boolE w L.a1 s.sl.busy
 r2:SR wrE w L.a2 s.wr
 r3:SR rdE w L.a3 s.rd
 r4:SR intE w L.a4 s.desc
 r5:SR ctE w L.a5 s.dk.cells
 r6:SR jbE w L.a6 s.dk.jobs
 r7:SR intE w L.a7 s.po.free
theorem SwR.ext{w w':World}{L:Lay}{s:Swp}(h:SwR w L s)(hb:Below w.heap.size w w'):SwR w' L s:=
 ⟨h.r0.ext hb,h.r1.ext hb,h.r2.ext hb,h.r3.ext hb,h.r4.ext hb,h.r5.ext hb,h.r6.ext hb,h.r7.ext hb⟩
def Part(A:Option Addr)(c:Nat)(A':Option Addr)(c':Nat):Prop:=c≠0→c'≠0→A.map (·.block)≠A'.map (·.block)
structure OwnM {α:Type} (E:Elt Tryz.prog α) (w:World) (base:Nat) (A:Option Addr) (c:Nat) (l:List α):Prop where
 len:l.length≤c
 own:l=[]∨OwnR E w base (.slice A l.length c) l
theorem OwnE.mn{α:Type}{E:Elt Tryz.prog α}{w:World}{base:Nat}{A:Option Addr}{c:Nat}{l:List α}(h:OwnE E w base A c l):OwnM E w base A c l:=⟨h.cr.2,h.own⟩
theorem OwnM.sr{α:Type}{E:Elt Tryz.prog α}{w:World}{base:Nat}{A:Option Addr}{c:Nat}{l:List α}(h:OwnM E w base A c l):SR E w A l:=by
 rcases h.own with e | h1
 ·subst e;exact SR.nil
 ·exact h1.sr.2
theorem OwnM.cr{α:Type}{E:Elt Tryz.prog α}{w:World}{base:Nat}{A:Option Addr}{c:Nat}{l:List α}(h:OwnM E w base A c l):CR E w A c l:=⟨h.sr,h.len⟩
theorem OwnM.ext{α:Type}{E:Elt Tryz.prog α}{w w':World}{base:Nat}{A:Option Addr}{c:Nat}{l:List α}(h:OwnM E w base A c l)(hb:Below w.heap.size w w'):OwnM E w' base A c l:=⟨h.len,h.own.imp_right fun h=>h.ext hb⟩
theorem OwnM.base_{α:Type}{E:Elt Tryz.prog α}{w:World}{base base':Nat}{A:Option Addr}{c:Nat}{l:List α}(h:OwnM E w base A c l)(hb:base'≤base):OwnM E w base' A c l:=⟨h.len,h.own.imp_right fun h=>h.base_ hb⟩
theorem OwnM.lift{α:Type}{E:Elt Tryz.prog α}{w w':World}{base:Nat}{A:Option Addr}{c:Nat}{l:List α}(h:OwnM E w base A c l)(hk:OwnE E w base A c l→OwnE E w' base A c l):OwnM E w' base A c l:=by
 rcases h.own with e | h1
 ·exact⟨h.len,.inl e⟩
 ·exact(hk ⟨.inr h1,.inr h1⟩).mn
theorem OwnM.far{α:Type}{E:Elt Tryz.prog α}{w:World}{base:Nat}{A:Option Addr}{c:Nat}{l:List α}(h:OwnM E w base A c l){p:Addr}(hp:p.block<base)(u:Value):OwnM E (w.setCell p u) base A c l:=h.lift fun h=>h.far hp u
theorem OwnM.farN{α:Type}{E:Elt Tryz.prog α}{w:World}{base:Nat}{A:Option Addr}{c:Nat}{l:List α}(h:OwnM E w base A c l){b o:Nat}(hb:b<base)(vs:List Value):OwnM E (setN w b o vs) base A c l:=h.lift fun h=>h.farN hb vs
theorem OwnM.farB{α:Type}{E:Elt Tryz.prog α}{w:World}{base:Nat}{A:Option Addr}{c:Nat}{l:List α}(h:OwnM E w base A c l){b:Nat}{t:TypeId}{cs:Array Value}(hb:Blk w b t cs)(ht:E.e≠t)(i:Nat)(u:Value):OwnM E (w.setCell ⟨b,i,none⟩ u) base A c l:=h.lift fun h=>h.farB hb ht i u
theorem OwnM.keptT{α β:Type}{E:Elt Tryz.prog α}{E':Elt Tryz.prog β}{w w':World}{base base':Nat}{A A':Option Addr}{c c':Nat}{l:List α}{l':List β}(h:OwnM E w base A c l)(h':OwnE E' w base' A' c' l')(ht:E.e≠E'.e)(hk:KeptE A' c' w w'):OwnM E w' base A c l:=h.lift fun h=>h.keptT h' ht hk
theorem OwnM.of_mine{w:World}{base:Nat}{A:Option Addr}{c:Nat}{l:List Wr}(h:Mine w base A c l)(hc:l.length≤c):OwnM wrE w base A c l:=by
 refine⟨hc,h.imp_right fun h => ?_⟩;have e:wrE.flat l=cellsW l:=wrE_flat l;unfold OwnR;rw[e];exact h
structure SwO (w:World) (base:Nat) (L:Lay) (s:Swp):Prop where
 o0:OwnE intE w base L.a0 L.c0 s.sl.refs
 o1:OwnE boolE w base L.a1 L.c1 s.sl.busy
 o2:OwnM wrE w base L.a2 L.c2 s.wr
 o3:OwnE rdE w base L.a3 L.c3 s.rd
 o4:OwnE intE w base L.a4 L.c4 s.desc
 o5:OwnE ctE w base L.a5 L.c5 s.dk.cells
 o6:OwnE jbE w base L.a6 L.c6 s.dk.jobs
 o7:OwnE intE w base L.a7 L.c7 s.po.free
 p0:Part L.a0 L.c0 L.a4 L.c4
 p7:Part L.a7 L.c7 L.a4 L.c4
theorem SwO.ext{w w':World}{base:Nat}{L:Lay}{s:Swp}(h:SwO w base L s)(hb:Below w.heap.size w w'):SwO w' base L s:=
 ⟨h.o0.ext hb,h.o1.ext hb,h.o2.ext hb,h.o3.ext hb,h.o4.ext hb,h.o5.ext hb,h.o6.ext hb,h.o7.ext hb,h.p0,h.p7⟩
theorem SwO.base_{w:World}{base base':Nat}{L:Lay}{s:Swp}(h:SwO w base L s)(hb:base'≤base):SwO w base' L s:=
 ⟨h.o0.base_ hb,h.o1.base_ hb,h.o2.base_ hb,h.o3.base_ hb,h.o4.base_ hb,h.o5.base_ hb,h.o6.base_ hb,h.o7.base_ hb,h.p0,h.p7⟩
theorem SwO.sw{w:World}{base:Nat}{L:Lay}{s:Swp}(h:SwO w base L s):SwR w L s:=
 ⟨h.o0.sr,h.o1.sr,h.o2.sr,h.o3.sr,h.o4.sr,h.o5.sr,h.o6.sr,h.o7.sr⟩
theorem SwO.farN{w:World}{base:Nat}{L:Lay}{s:Swp}(h:SwO w base L s){b o:Nat}(hb:b<base)(vs:List Value):SwO (setN w b o vs) base L s:=
 ⟨h.o0.farN hb vs,h.o1.farN hb vs,h.o2.farN hb vs,h.o3.farN hb vs,h.o4.farN hb vs,h.o5.farN hb vs,h.o6.farN hb vs,h.o7.farN hb vs,h.p0,h.p7⟩
theorem SwO.zero{w:World}{base:Nat}:SwO w base .zero .zero:=
 ⟨OwnE.nil,OwnE.nil,OwnE.nil.mn,OwnE.nil,OwnE.nil,OwnE.nil,OwnE.nil,OwnE.nil,fun h=>absurd rfl h,fun h=>absurd rfl h⟩
theorem OwnE.part{α β:Type}{E:Elt Tryz.prog α}{E':Elt Tryz.prog β}{w w':World}{base base':Nat}{A A':Option Addr}{c c':Nat}{l:List α}{l':List β}(h:OwnE E w base A c l)(h':OwnE E' w' base' A' c' l')(hb:w.heap.size≤base'):Part A c A' c':=fun hc hc' e=>by
 obtain⟨g,e1,_,h2⟩:=h.blk hc;obtain⟨g',e3,h4,_⟩:=h'.blk hc';subst e1 e3;simp at e;omega
theorem Part.symm{A A':Option Addr}{c c':Nat}(h:Part A c A' c'):Part A' c' A c:=fun h1 h2 e=>h h2 h1 e.symm
theorem OwnE.keptP{α:Type}{E:Elt Tryz.prog α}{w w':World}{base:Nat}{A A':Option Addr}{c c':Nat}{l:List α}(h:OwnE E w base A c l)(hp:Part A c A' c')(hk:KeptE A' c' w w'):OwnE E w' base A c l:=by
 by_cases hc:c=0
 ·have hl0:l=[]:=by
   have:=h.cr.2;exact List.length_eq_zero_iff.1 (by omega)
  subst hl0 hc;exact⟨.inl ⟨rfl,SR.nil⟩,.inl rfl⟩
 ·have h1:=h.row hc
  have key:OwnR E w' base (.slice A l.length c) l:=by
   obtain⟨hl,⟨e,hn⟩ | ⟨g,cap,cur,e,hg,hb,hr⟩⟩:=h1
   ·exact⟨hl,.inl ⟨e,hn⟩⟩
   ·injection e with e1 e2 e3
    subst e1 e3;refine⟨hl,.inr ⟨g,_,cur,by rw[e2],hg,(hk g (Array.getElem?_eq_some_iff.1 hb).1 fun hc' e' => ?_).trans hb,hr⟩⟩;exact hp hc hc' e'.symm
  exact⟨.inr key,.inr key⟩
def SwPost(R:Swp)(z:List Value)(w:World)(e:Ending)(w':World):Prop:=∃ L,e=.returned (.tuple (swV L R::z).toArray)∧SwO w' w.heap.size L R∧Below w.heap.size w w'
structure Few (s:Swp):Prop where
 f0:s.sl.refs.length≤40
 f1:s.sl.busy.length≤40
 f2:s.wr.length≤1000
 f3:s.rd.length≤1000
 f4:s.desc.length≤1000
 f5:s.dk.cells.length≤1000
 f6:s.dk.jobs.length≤1000
 f7:s.po.free.length≤1000
def wtR:Value→Option (DataW Unit × List MemPlace)
 | .agg ⟨[.bool b,.int .i64 n]⟩=>some (.agg [.lit (.bool b),.lit (.int .i64 n)],[])
 | _=>none
noncomputable def wtT:MTy Tryz.prog Int (Bool × Int) where
 t:=124
 K:=3
 e:=128
 ht:=Tryz.underlying124
 KK:=Go.Maps.int_keyed Tryz.underlying3
 kv k:=.int .i64 k
 kl k:=.int .i64 k
 okk k:=(Lit.int .i64 k).wf=true
 hkey k h:=keyOf_int_mk Tryz.underlying3 h
 kvinj a b h:=by injection h
 ev v:=.agg #[.bool v.1,.int .i64 v.2]
 dt v:=.agg [.lit (.bool v.1),.lit (.int .i64 v.2)]
 R:=wtR
 oke _:=True
 hR v _:=rfl
 hinv u y h:=by
  unfold wtR at h
  split at h
  ·cases h;exact⟨(_,_),rfl,rfl⟩
  ·cases h
 dinj a b h:=by
  injection h with h
  injection h with h1 h2
  injection h2 with h2 _
  injection h1 with h1;injection h1 with h1
  injection h2 with h2;injection h2 with _ h2
  exact Prod.ext h1 h2
 z:=(false,0)
 okz:=trivial
 hz w:=by first | exact Tryz.zeroValue128 w | simp[go_sem]
def wtv(b:Bool)(l:List Wr):List (Int × Bool × Int):=(l.filter fun v=>decide (v.2.2≠0)).map fun v=>(v.2.2,b,v.1)
def wtV(s:Swp):List (Int × Bool × Int):=wtv true s.wr++wtv false s.rd
theorem wtV_wtW(s:Swp):wtW s=(wtV s).map fun x=>(x.1,x.2.2):=by
 unfold wtW wtV wtv;rw[List.map_append,List.filter_append,List.map_append,List.map_map,List.map_map];rfl
def lkV(l:List (Int × Bool × Int))(p:Int):Option (Bool × Int):=(l.find? fun x=>decide (x.1=p)).map (·.2)
theorem lkV_snoc(l:List (Int × Bool × Int))(k:Int)(v:Bool × Int)(h:lkV l k=none):(fun j=>if j=k then some v else lkV l j)=lkV (l++[(k,v)]):=by
 funext j
 unfold lkV at *;rw[List.find?_append]
 by_cases e:j=k
 ·subst e
  rw[if_pos rfl];rw[Option.map_eq_none_iff] at h;rw[h];simp
 ·rw[if_neg e]
  have:¬ k=j:=fun h=>e h.symm
  cases hh:l.find? (fun x=>decide (x.1=j)) with
  | none=>simp[this]
  | some y=>simp
theorem lkV_none{l:List (Int × Bool × Int)}{p:Int}:lkV l p=none ↔ ∀ x ∈ l,x.1≠p:=by
 unfold lkV;rw[Option.map_eq_none_iff,List.find?_eq_none];simp
theorem lkV_some{l:List (Int × Bool × Int)}(hn:(l.map (·.1)).Nodup){p:Int}{v:Bool × Int}:lkV l p=some v↔(p,v) ∈ l:=by
 unfold lkV
 constructor
 ·intro h
  obtain⟨x,hx,rfl⟩:=Option.map_eq_some_iff.1 h;have h1:=List.mem_of_find?_eq_some hx;have h2:=List.find?_some hx;simp at h2;subst h2;exact h1
 ·intro h
  induction l with
  | nil=>cases h
  | cons y l ih=>
   have hn':y.1 ∉ l.map (·.1)∧(l.map (·.1)).Nodup:=by
    have:(y.1::l.map (·.1)).Nodup:=hn;exact List.nodup_cons.1 this
   rcases List.mem_cons.1 h with e | h
   ·subst e
    simp
   ·have hne:¬ y.1=p:=fun e=>hn'.1 (by rw[e];exact List.mem_map.2 ⟨_,h,rfl⟩)
    rw[List.find?_cons,decide_eq_false hne];exact ih hn'.2 h
theorem wtv_succ{b:Bool}{l:List Wr}{k:Nat}{v:Wr}(h:l[k]? = some v):wtv b (l.take (k+1))=wtv b (l.take k)++(if v.2.2=0 then [] else [(v.2.2,b,v.1)]):=by
 unfold wtv;rw[List.take_add_one,h];show List.map _ (List.filter _ (l.take k++[v]))=_;rw[List.filter_append,List.map_append]
 by_cases e:v.2.2=0 <;> simp[e]
theorem wtv_mem{b:Bool}{l:List Wr}{x:Int × Bool × Int}:x ∈ wtv b l ↔ ∃ v ∈ l,v.2.2≠0∧x=(v.2.2,b,v.1):=by
 unfold wtv
 constructor
 ·intro h
  obtain⟨v,hv,rfl⟩:=List.mem_map.1 h;rw[List.mem_filter] at hv;exact⟨v,hv.1,by simpa using hv.2,rfl⟩
 ·rintro ⟨v,h1,h2,rfl⟩
  exact List.mem_map.2 ⟨v,List.mem_filter.2 ⟨h1,by simpa using h2⟩,rfl⟩
theorem take_apart{l:List Wr}(hp:l.Pairwise apart){k:Nat}{v x:Wr}(h:l[k]? = some v)(hx:x ∈ l.take k):apart x v:=by
 obtain⟨hk,e⟩:=List.getElem?_eq_some_iff.1 h;obtain⟨i,hi,e2⟩:=List.getElem_of_mem hx;rw[List.getElem_take] at e2;rw[List.length_take] at hi;rw[←e,←e2];exact List.pairwise_iff_getElem.1 hp i k (by omega) hk (by omega)
theorem wtv_new{l:List Wr}(hv:Valid l){k:Nat}{v:Wr}(h:l[k]? = some v)(h0:v.2.2≠0):lkV (wtv true (l.take k)) v.2.2=none:=by
 rw[lkV_none];intro x hx;obtain⟨y,hy,_,rfl⟩:=wtv_mem.1 hx
 rcases (take_apart hv.2.2 h hy).2.2 with e | e
 ·exact absurd e h0
 ·exact e
theorem wtv_nodup{l:List Wr}(hv:Valid l):∀ k,k≤l.length→((wtv true (l.take k)).map (·.1)).Nodup
 | 0,_=>by simp[wtv]
 | k+1,hk=>by
  have ih:=wtv_nodup hv k (by omega);have hx:l[k]? = some l[k]:=List.getElem?_eq_getElem (by omega);rw[wtv_succ hx,List.map_append]
  by_cases e:(l[k]).2.2=0
  ·rw[if_pos e];simpa using ih
  ·rw[if_neg e,List.nodup_append]
   refine⟨ih,by simp,?_⟩;have:=lkV_none.1 (wtv_new hv hx e);intro a ha b hb;obtain⟨y,hy,rfl⟩:=List.mem_map.1 ha;simp at hb;subst hb;exact this y hy
theorem wtv_range{l:List Wr}(hv:∀ x ∈ l,okW x=true):∀ x ∈ wtv true l,1≤x.1∧x.1≤8:=fun x hx=>by
 obtain⟨v,h1,h2,rfl⟩:=wtv_mem.1 hx;have:=hv v h1;unfold okW at this;simp at this
 rcases this.2.2 with e | e
 ·exact absurd e h2
 ·exact e
def wgood(ws rs:List Wr):Prop:=((wtv true ws++wtv false rs).map (·.1)).Nodup∧∀ x ∈ wtv true ws++wtv false rs,1≤x.1∧x.1≤8
theorem wtok_iff(s:Swp):wtok s=true↔wgood s.wr s.rd:=by
 have e:(wtW s).map (·.1)=(wtV s).map (·.1):=by rw[wtV_wtW,List.map_map];rfl
 unfold wtok wgood;rw[e,Bool.and_eq_true,decide_eq_true_eq,List.all_eq_true,wtV_wtW];show _↔((wtV s).map (·.1)).Nodup∧∀ x ∈ wtV s,_
 constructor
 ·rintro ⟨h1,h2⟩
  refine⟨h1,fun x hx => ?_⟩;simpa using h2 _ (List.mem_map.2 ⟨x,hx,rfl⟩)
 ·rintro ⟨h1,h2⟩
  refine⟨h1,fun y hy => ?_⟩;obtain⟨x,hx,rfl⟩:=List.mem_map.1 hy;simpa using h2 x hx
theorem wgood_start{ws:List Wr}(hv:Valid ws):wgood ws []:=by
 unfold wgood;have e:wtv false []=[]:=rfl;rw[e,List.append_nil];have:=wtv_nodup hv ws.length (Nat.le_refl _);rw[List.take_length] at this;exact⟨this,wtv_range hv.2.1⟩
theorem wgood_zero{ws rs:List Wr}{k:Nat}{v:Wr}(h:wgood ws (rs.take k))(hx:rs[k]? = some v)(h0:v.2.2=0):wgood ws (rs.take (k+1)):=by
 unfold wgood at *;rw[wtv_succ hx,if_pos h0,List.append_nil];exact h
theorem wgood_succ{ws rs:List Wr}{k:Nat}{v:Wr}(h:wgood ws (rs.take k))(hx:rs[k]? = some v)(h0:v.2.2≠0)(hn:lkV (wtv true ws++wtv false (rs.take k)) v.2.2=none)(hr:1≤v.2.2∧v.2.2≤8):wgood ws (rs.take (k+1)):=by
 unfold wgood at *;rw[wtv_succ hx,if_neg h0,←List.append_assoc];refine⟨?_,fun x hx => ?_⟩
 ·rw[List.map_append,List.nodup_append]
  refine⟨h.1,by simp,?_⟩;have:=lkV_none.1 hn;intro a ha b hb;obtain⟨y,hy,rfl⟩:=List.mem_map.1 ha;simp at hb;subst hb;exact this y hy
 ·rcases List.mem_append.1 hx with hx | hx
  ·exact h.2 x hx
  ·simp at hx
   subst hx;exact hr
theorem wgood_bad{ws rs:List Wr}{k:Nat}{v:Wr}(hx:rs[k]? = some v)(h0:v.2.2≠0)(hn:(lkV (wtv true ws++wtv false (rs.take k)) v.2.2).isSome=true ∨ ¬ (1≤v.2.2∧v.2.2≤8)):¬ wgood ws rs:=by
 have hs:(wtv true ws++wtv false (rs.take (k+1))).Sublist (wtv true ws++wtv false rs):=by
  refine List.Sublist.append (List.Sublist.refl _) ?_;unfold wtv;exact List.Sublist.map _ (List.Sublist.filter _ (List.take_sublist _ _))
 rintro ⟨h1,h2⟩;have h1:=h1.sublist (List.Sublist.map (·.1) hs)
 have h2:∀ x ∈ wtv true ws++wtv false (rs.take (k+1)),1≤x.1∧x.1≤8:=fun x hx=>h2 x (hs.subset hx)
 rw[wtv_succ hx,if_neg h0,←List.append_assoc] at h1 h2
 rcases hn with hn | hn
 ·rw[List.map_append,List.nodup_append] at h1
  have hnn:¬ lkV (wtv true ws++wtv false (rs.take k)) v.2.2=none:=by
   intro e;rw[e] at hn;cases hn
  rw[lkV_none] at hnn
  refine hnn fun x hx e => ?_
  exact h1.2.2 x.1 (List.mem_map.2 ⟨x,hx,rfl⟩) v.2.2 (by simp) e
 ·exact hn (h2 (v.2.2,false,v.1) (by simp))
theorem wtV_lk(s:Swp)(h:wtok s=true){p:Int}{v:Bool × Int}:lkV (wtV s) p=some v↔(p,v) ∈ wtV s:=lkV_some ((wtok_iff s).1 h).1
theorem lkV_isSome{l:List (Int × Bool × Int)}{p:Int}:(lkV l p).isSome=l.any fun x=>decide (x.1=p):=by
 cases h:lkV l p with
 | none=>
  have:=lkV_none.1 h
  symm
  show (l.any _)=false;rw[List.any_eq_false];intro x hx;simpa using this x hx
 | some v=>
  unfold lkV at h;obtain⟨x,hx,_⟩:=Option.map_eq_some_iff.1 h;have h1:=List.mem_of_find?_eq_some hx;have h2:=List.find?_some hx
  symm
  exact List.any_eq_true.2 ⟨x,h1,h2⟩
theorem any_wtW(s:Swp)(p:Int):((wtW s).any fun x=>decide (x.1=p))=(lkV (wtV s) p).isSome:=by
 rw[lkV_isSome,wtV_wtW,List.any_map];rfl
def WtPost(s:Swp)(w:World)(e:Ending)(w':World):Prop:=Below w.heap.size w w'∧((wtok s=true∧∃ M n,e=.returned (.tuple #[.map (some M),.bool true])∧MapT wtT w' M n (lkV (wtV s))∧w.heap.size≤M)∨(wtok s=false∧e=.returned (.tuple #[.map none,.bool false])))
theorem wpList_putWt{ops:Array Oper}{rest:List Oper}{o:Oper}{a:Act}{Z:Exit→Act→World→Prop}(w:World)(hg:o.guard=none)(mo x vo:Operand)(hop:o.op=Op.mapUpdate 124 mo x vo)
  (B n:Nat) (m:Int→Option (Bool × Int)) (hm:a.eval mo=.map (some B)) (h:MapT wtT w B n m) (hn:n<maxLen) (k:Int) (v:Bool × Int) (hx:a.eval x=.int .i64 k) (hv:a.eval vo=.agg #[.bool v.1,.int .i64 v.2]) (hk:(Lit.int .i64 k).wf=true)
  (hK:∀ w',MapT wtT w' B (n+1) (fun j=>if j=k then some v else m j)→w.grownBy w' (some B)→w'.heap.size=w.heap.size→wpList Tryz.prog ops Z rest (a.put o.dst undef) w'):wpList Tryz.prog ops Z (o::rest) a w:=
 wpList_putT wtT w hg _ rfl mo x vo hop B n m hm h hn k v hx hv hk trivial hK
theorem wtT_look{w:World}{M n:Nat}{m:Int→Option (Bool × Int)}(h:MapT wtT w M n m)(x:Int)(hx:(Lit.int .i64 x).wf=true){v:Bool × Int}(hv:(m x).getD (false,0)=v){b:Bool}(hb:(m x).isSome=b) :
  (Instr.lookup 124 (.map (some M)) (.int .i64 x) true).run Tryz.prog w=.ok (.tuple #[.agg #[.bool v.1,.int .i64 v.2],.bool b]) w:=
 h.look_ok (T:=wtT) (k:=x) hx hv hb
theorem swProc_b(n:Int)(b:Bool)(hb:decide (1≤n∧n≤8)=b)(w:World):Calls Tryz.prog 97 #[.int .i64 n] w fun e w'=>e=.returned (.bool b)∧w=w':=by
 have HB:=Lib.hid hb;clear hb
 go_enter Tryz.func97,Tryz.ntmps97
 go_wp2
 all_goals
  go_ret
  refine⟨ret_bool ?_,rfl⟩
  have:=HB.out
  first | (rw[←this,decide_eq_true (by omega)];done) | (rw[←this,decide_eq_false (by omega)];done) | (simp_all;done) | (simp_all;omega)
theorem swFrame_b(n:Int)(b:Bool)(hb:decide (0≤n∧n<256)=b)(w:World):Calls Tryz.prog 48 #[.int .i64 n] w fun e w'=>e=.returned (.bool b)∧w=w':=by
 have HB:=Lib.hid hb;clear hb
 go_enter Tryz.func48,Tryz.ntmps48
 go_wp2
 all_goals
  go_ret
  refine⟨ret_bool ?_,rfl⟩
  have:=HB.out
  first | (rw[←this,decide_eq_true (by omega)];done) | (rw[←this,decide_eq_false (by omega)];done) | (simp_all;done) | (simp_all;omega)
theorem waiting_any(L:Lay)(s:Swp)(w:World)(h2:SR wrE w L.a2 s.wr)(h3:SR rdE w L.a3 s.rd)(hv:Valid s.wr)(hr:∀ v ∈ s.rd,(Lit.int .i64 v.2.2).wf=true)(l3:s.rd.length≤1000) :
  Calls Tryz.prog 88 #[swV L s] w (WtPost s w):=by
 obtain⟨a0,c0,a1,c1,a2,c2,a3,c3,a4,c4,a5,c5,a6,c6,a7,c7⟩:=L;have H2:=Lib.hid h2;have H3:=Lib.hid h3;have HV:=Lib.hid hv;have HR:=Lib.hid hr;have l2:s.wr.length≤16:=hv.1;have hmm:=@run_makeMap Tryz.prog;clear h2 h3 hv hr;unfold swV swC
 go_enter Tryz.func88,Tryz.ntmps88
 go_wp2_with fail;obtain⟨V,hV⟩:∃ V,(w.alloc (.cells (zkx s a0 c0 a1 c1 a2 c2 a3 c3 a4 c4 a5 c5 a6 c6 a7 c7).toArray 35)).alloc (.map #[] 0)=V:=⟨_,rfl⟩
 have hM:MapT wtT V (w.heap.size+1) 0 (fun _=>none):=by
  have h:=MapT.new_ (T:=wtT) (w.alloc (.cells (zkx s a0 c0 a1 c1 a2 c2 a3 c3 a4 c4 a5 c5 a6 c6 a7 c7).toArray 35));rw[hV] at h;simpa using h
 have BV:Below w.heap.size w V:=by rw[←hV];exact zbl
 have kS:=za1 hV;rw[hV];clear hV
 go_loopw [15] (fun i wr=>∃ (k cnt:Nat),k≤s.wr.length∧i=.int .i64 k∧Hid (MapT wtT wr (w.heap.size+1) cnt (lkV (wtv true (s.wr.take k))))∧cnt≤k∧Below w.heap.size w wr∧Blk wr w.heap.size 35 (zkx s a0 c0 a1 c1 a2 c2 a3 c3 a4 c4 a5 c5 a6 c6 a7 c7).toArray) (fun i _=>s.wr.length - (intOf i).toNat)
 case atStart=>exact⟨0,0,by omega,rfl,hM,by omega,BV,kS⟩
 case round=>
  clear hM BV kS;obtain⟨k,cnt,hk,rfl,HM,hcn,hb,kS⟩:=hrel
  by_cases hlt:k<s.wr.length
  ·have i1:(k:Int)<s.wr.length:=by omega
   obtain⟨b,off,x,rfl,hbl,hx,hc⟩:=(H2.out.ext hb).at_ hlt;obtain⟨x0,x1,x2⟩:=x;have HX:=Lib.hid hx;have hokx:=HV.out.2.1 _ (List.mem_of_getElem? hx)
   have HWF:Hid ((Lit.int .i64 x2).wf=true):=by
    unfold okW at hokx;simp at hokx;exact wf_i (by omega)
   clear hx hokx;have e0:wr.cell? ⟨b,off+k*3,none⟩=some (.int .i64 x0):=hc 0 _ rfl;have e1:wr.cell? ⟨b,off+k*3+1,none⟩=some (.int .i64 x1):=hc 1 _ rfl;have e2:wr.cell? ⟨b,off+k*3+2,none⟩=some (.int .i64 x2):=hc 2 _ rfl;obtain⟨V6,hV6⟩:∃ V6,wr.alloc (.cells #[.int .i64 x0,.int .i64 x1,.int .i64 x2] 106)=V6:=⟨_,rfl⟩;have kJ:=za hV6;have B6:=zab hV6;have zJ:=kJ.lt;obtain⟨j0,j1,j2⟩:=zc3 kJ;have HM6:Hid (MapT wtT V6 (w.heap.size+1) cnt (lkV (wtv true (s.wr.take k)))):=HM.out.ext B6;have zM:w.heap.size+1<wr.heap.size:=HM.out.lt;have kS6:=kS.below_ B6 kS.lt
   by_cases z2:x2=0
   ·have n2:(x2 != 0)=false:=by simpa using z2
    replace z2:=Lib.hid z2;go_upto_region 5 with fail;(try rw[hV6]);clear hV6 e0 e1 e2;go_wp2_with fail
    go_roundw
    case rel=>
     refine⟨k+1,cnt,by omega,by go_num,?_,by omega,hb.trans (B6.mono hb.size),kS6⟩;rw[wtv_succ HX.out,if_pos z2.out,List.append_nil];exact HM6
    case measure=>simp[intOf];omega
   ·have n2:(x2 != 0)=true:=by simpa using z2
    have HZ2:=Lib.hid z2;go_upto_region 5 with fail;(try rw[hV6]);clear hV6 e0 e1 e2
    go_wp2_with (at_mapUpdate;refine wpList_putWt _ rfl _ _ _ rfl (w.heap.size+1) cnt _ rfl HM6.out (by unfold maxLen;omega) x2 (true,x0) rfl rfl HWF.out ?_;intro w7 h7 g7 s7)
    have B7:Below w.heap.size w w7:=below_grown (hb.trans (B6.mono hb.size)) g7 (by omega);have kS7:=(g7.block _ kS6.lt (by simp)).trans kS6
    go_roundw
    case rel=>
     refine⟨k+1,cnt+1,by omega,by go_num,?_,by omega,B7,kS7⟩;rw[lkV_snoc _ _ _ (wtv_new HV.out HX.out HZ2.out)] at h7;rw[wtv_succ HX.out,if_neg HZ2.out];exact h7
    case measure=>simp[intOf];omega
  ·obtain rfl:k=s.wr.length:=by omega
   have HM0:Hid (MapT wtT wr (w.heap.size+1) cnt (lkV (wtv true s.wr++wtv false (s.rd.take 0)))):=by
    show MapT _ _ _ _ _;have:=HM.out;rw[List.take_length] at this;have e:wtv true s.wr++wtv false (s.rd.take 0)=wtv true s.wr:=by simp[wtv]
    rw[e];exact this
   obtain⟨W,rfl⟩:∃ W,W=wr:=⟨_,rfl⟩;clear HM;have zS:=kS.lt;obtain⟨-,-,-,-,q3,-⟩:=zc11 kS;go_wp2_with fail;clear q3;have HG0:Hid (wgood s.wr (s.rd.take 0)):=wgood_start HV.out
   go_loopw [32] (fun i wr=>∃ (k cnt:Nat),k≤s.rd.length∧i=.int .i64 k∧Hid (MapT wtT wr (w.heap.size+1) cnt (lkV (wtv true s.wr++wtv false (s.rd.take k))))∧cnt≤16+k∧Hid (wgood s.wr (s.rd.take k))∧Below w.heap.size w wr) (fun i _=>s.rd.length - (intOf i).toNat)
   case atStart=>exact⟨0,cnt,by omega,rfl,HM0,by omega,HG0,hb⟩
   case round=>
    clear HM0 HG0 hb kS;obtain⟨k,cnt,hk,rfl,HM,hcn,HG,hb⟩:=hrel
    by_cases hlt:k<s.rd.length
    ·have i1:(k:Int)<s.rd.length:=by omega
     obtain⟨b,off,x,rfl,hbl,hx,hc⟩:=(H3.out.ext hb).at_ hlt;obtain⟨x0,x1,x2⟩:=x;have HX:=Lib.hid hx;have HWF:Hid ((Lit.int .i64 x2).wf=true):=HR.out _ (List.mem_of_getElem? hx);clear hx;have e0:wr.cell? ⟨b,off+k*3,none⟩=some (.int .i64 x0):=hc 0 _ rfl;have e1:wr.cell? ⟨b,off+k*3+1,none⟩=some (.int .i64 x1):=hc 1 _ rfl;have e2:wr.cell? ⟨b,off+k*3+2,none⟩=some (.int .i64 x2):=hc 2 _ rfl;obtain⟨V6,hV6⟩:∃ V6,wr.alloc (.cells #[.int .i64 x0,.int .i64 x1,.int .i64 x2] 100)=V6:=⟨_,rfl⟩;have kJ:=za hV6;have B6:=zab hV6;have zJ:=kJ.lt;obtain⟨j0,j1,j2⟩:=zc3 kJ;have HM6:Hid (MapT wtT V6 (w.heap.size+1) cnt (lkV (wtv true s.wr++wtv false (s.rd.take k)))):=HM.out.ext B6;have zM:w.heap.size+1<wr.heap.size:=HM.out.lt
     by_cases z2:x2=0
     ·have n2:(x2 == 0)=true:=by simpa using z2
      replace z2:=Lib.hid z2;go_upto_region 11 with fail;(try rw[hV6]);clear hV6 e0 e1 e2;go_wp2_with fail
      go_roundw
      case rel=>
       refine⟨k+1,cnt,by omega,by go_num,?_,by omega,wgood_zero HG.out HX.out z2.out,hb.trans (B6.mono hb.size)⟩;rw[wtv_succ HX.out,if_pos z2.out,List.append_nil];exact HM6
      case measure=>simp[intOf];omega
     ·have n2:(x2 == 0)=false:=by simpa using z2
      have HZ2:=Lib.hid z2;obtain⟨tw,htw⟩:∃ b,(lkV (wtv true s.wr++wtv false (s.rd.take k)) x2).isSome=b:=⟨_,rfl⟩;obtain⟨⟨y0,y1⟩,hy⟩:∃ y,(lkV (wtv true s.wr++wtv false (s.rd.take k)) x2).getD (false,0)=y:=⟨_,rfl⟩;have hlk:=wtT_look HM6.out x2 HWF.out hy htw;have HTW:=Lib.hid htw;clear htw hy
      have NV:=fun (W':World)=>Blk.new_ (w:=W') (t:=128) (cs:=#[.bool y0,.int .i64 y1]) rfl rfl
      cases tw with
      | true=>
       have HB:Hid (wtok s=false):=by
        show _=_
        refine Bool.eq_false_iff.2 fun e => ?_
        exact wgood_bad HX.out HZ2.out (.inl HTW.out) ((wtok_iff s).1 e)
       go_upto_region 11 with fail;(try rw[hV6]);clear hV6 e0 e1 e2;go_wp2_with fail;refine bodyPost_ret (by simp[results,Tryz.results88,go_sem] <;> rfl) rfl ?_;refine⟨?_,.inr ⟨HB.out,rfl⟩⟩;exact(hb.trans (B6.mono hb.size)).alloc (Nat.le_trans hb.size B6.size) _
      | false=>
       cases d3:decide (1≤x2∧x2≤8) with
       | false=>
        have HB:Hid (wtok s=false):=by
         show _=_
         refine Bool.eq_false_iff.2 fun e => ?_
         exact wgood_bad HX.out HZ2.out (.inr (by simpa using d3)) ((wtok_iff s).1 e)
        go_upto_region 11 with fail;(try rw[hV6]);clear hV6 e0 e1 e2
        go_wp2_with (go_at_call 97;refine (swProc_b _ _ d3 _).mono ?_;rintro e w' ⟨rfl,rfl⟩)
        refine bodyPost_ret (by simp[results,Tryz.results88,go_sem] <;> rfl) rfl ?_;refine⟨?_,.inr ⟨HB.out,rfl⟩⟩;exact(hb.trans (B6.mono hb.size)).alloc (Nat.le_trans hb.size B6.size) _
       | true=>
        have HD:=Lib.hid d3;go_upto_region 11 with fail;(try rw[hV6]);clear hV6 e0 e1 e2
        go_upto_region 15 with (go_at_call 97;refine (swProc_b _ _ d3 _).mono ?_;rintro e w' ⟨rfl,rfl⟩)
        obtain⟨V8,hV8⟩:∃ V8,V6.alloc (.cells #[.bool y0,.int .i64 y1] 128)=V8:=⟨_,rfl⟩;have B8:=zab hV8;have HM8:Hid (MapT wtT V8 (w.heap.size+1) cnt (lkV (wtv true s.wr++wtv false (s.rd.take k)))):=HM6.out.ext B8;have kJ8:=kJ.below_ B8 zJ;have zJ8:=kJ8.lt;clear j0 j1 j2 hlk;obtain⟨j0,j1,j2⟩:=zc3 kJ8;(try rw[hV8]);clear hV8
        go_wp2_with (at_mapUpdate;refine wpList_putWt _ rfl _ _ _ rfl (w.heap.size+1) cnt _ rfl HM8.out (by unfold maxLen;omega) x2 (false,x0) rfl rfl HWF.out ?_;intro w7 h7 g7 s7)
        have B7:Below w.heap.size w w7:=below_grown ((hb.trans (B6.mono hb.size)).trans (B8.mono (Nat.le_trans hb.size B6.size))) g7 (by omega)
        go_roundw
        case rel=>
         have hnone:lkV (wtv true s.wr++wtv false (s.rd.take k)) x2=none:=Option.isSome_eq_false_iff.1 HTW.out |> Option.isNone_iff_eq_none.1
         refine⟨k+1,cnt+1,by omega,by go_num,?_,by omega,wgood_succ HG.out HX.out HZ2.out hnone (by simpa using HD.out),B7⟩;rw[lkV_snoc _ _ _ hnone] at h7;rw[wtv_succ HX.out,if_neg HZ2.out,←List.append_assoc];exact h7
        case measure=>simp[intOf];omega
    ·obtain rfl:k=s.rd.length:=by omega
     have HM9:=HM.out;have HG9:=HG.out;rw[List.take_length] at HM9 HG9;go_wp2_with fail;refine bodyPost_ret (by simp[results,Tryz.results88,go_sem] <;> rfl) rfl ?_;exact⟨hb,.inl ⟨(wtok_iff s).2 HG9,w.heap.size+1,cnt,rfl,HM9,by omega⟩⟩
structure WkAt (w:World) (base B:Nat) (L:Lay) (s:Swp):Prop where
 blk:Blk w B 87 (swC L s).toArray
 own:SwO w base L s
 low:base≤B
def WkPost(s:Swp)(w:World)(e:Ending)(w':World):Prop:=∃ B L,e=.returned (.pointer (some ⟨B,0,none⟩))∧WkAt w' w.heap.size B L s∧Below w.heap.size w w'
theorem WkAt.ext{w w':World}{base B:Nat}{L:Lay}{s:Swp}(h:WkAt w base B L s)(hb:Below w.heap.size w w'):WkAt w' base B L s:=
 ⟨h.blk.below_ hb h.blk.lt,h.own.ext hb,h.low⟩
theorem load_any(L:Lay)(s:Swp)(w:World)(h:SwR w L s)(hf:Few s):Calls Tryz.prog 50 #[swV L s] w (WkPost s w):=by
 obtain⟨a0,c0,a1,c1,a2,c2,a3,c3,a4,c4,a5,c5,a6,c6,a7,c7⟩:=L;have HS:=Lib.hid h;obtain⟨f0,f1,f2,f3,f4,f5,f6,f7⟩:=hf;clear h;unfold swV swC;obtain⟨X0,hX0⟩:∃ X,w.alloc (.cells (zkx s a0 c0 a1 c1 a2 c2 a3 c3 a4 c4 a5 c5 a6 c6 a7 c7).toArray 35)=X:=⟨_,rfl⟩;have kS0:Blk X0 w.heap.size 35 (zkx s a0 c0 a1 c1 a2 c2 a3 c3 a4 c4 a5 c5 a6 c6 a7 c7).toArray:=by rw[←hX0];exact zbk
 have BX0:Below w.heap.size w X0:=by rw[←hX0];exact zbl
 go_enter Tryz.func50,Tryz.ntmps50
 have zq0:=kS0.lt;obtain⟨-,q0_1,-⟩:=zc11 kS0;go_wp2_with fail;(try rw[hX0]);clear hX0;refine (ClnI_any a0 c0 s.sl.refs X0 (HS.out.r0.ext BX0) (by omega)).mono ?_;rintro e0 w1 ⟨b0,d0,rfl,o0,hb0⟩;have kT0:=kS0.below_ hb0 zq0;have zt0:=kT0.lt;obtain⟨-,t0_1,-⟩:=zc11 kT0;have tf0_1:=kT0.frozen_ 1;go_upto_region 2 with fail;obtain⟨X1,hX1⟩:∃ V,w1.setCell ⟨w.heap.size,1,none⟩ (.slice b0 s.sl.refs.length d0)=V:=⟨_,rfl⟩;have kS1:Blk X1 w.heap.size 35 (zkx s b0 d0 a1 c1 a2 c2 a3 c3 a4 c4 a5 c5 a6 c6 a7 c7).toArray:=by rw[←hX1];exact kT0.set_ 1 _
 have BX1:Below w.heap.size w X1:=by rw[←hX1];exact(BX0.trans (hb0.mono BX0.size)).setCell (p:=⟨w.heap.size,1,none⟩) (Nat.le_refl _) _
 have sz1:X0.heap.size≤X1.heap.size:=by rw[←hX1];simpa [World.setCell] using hb0.size
 replace o0:OwnE intE X1 X0.heap.size b0 d0 s.sl.refs:=by rw[←hX1];exact o0.far zq0 _
 have u0:OwnE intE X1 X0.heap.size b0 d0 s.sl.refs:=o0;have hs01:X1.heap.size≤X1.heap.size:=Nat.le_refl _;rw[hX1];clear hX1 hb0 kT0 q0_1 t0_1 tf0_1 kS0;have zq1:=kS1.lt;obtain⟨-,-,q1_2,-⟩:=zc11 kS1;go_wp2_with fail;refine (ClnB_any a1 c1 s.sl.busy X1 (HS.out.r1.ext BX1) (by omega)).mono ?_;rintro e1 w2 ⟨b1,d1,rfl,o1,hb1⟩;have kT1:=kS1.below_ hb1 zq1;have zt1:=kT1.lt;obtain⟨-,-,t1_2,-⟩:=zc11 kT1;have tf1_2:=kT1.frozen_ 2;go_upto_region 3 with fail;obtain⟨X2,hX2⟩:∃ V,w2.setCell ⟨w.heap.size,2,none⟩ (.slice b1 s.sl.busy.length d1)=V:=⟨_,rfl⟩;have kS2:Blk X2 w.heap.size 35 (zkx s b0 d0 b1 d1 a2 c2 a3 c3 a4 c4 a5 c5 a6 c6 a7 c7).toArray:=by rw[←hX2];exact kT1.set_ 2 _
 have BX2:Below w.heap.size w X2:=by rw[←hX2];exact(BX1.trans (hb1.mono BX1.size)).setCell (p:=⟨w.heap.size,2,none⟩) (Nat.le_refl _) _
 have sz2:X1.heap.size≤X2.heap.size:=by rw[←hX2];simpa [World.setCell] using hb1.size
 replace o1:OwnE boolE X2 X1.heap.size b1 d1 s.sl.busy:=by rw[←hX2];exact o1.far zq1 _
 replace o0:OwnE intE X2 X0.heap.size b0 d0 s.sl.refs:=by rw[←hX2];exact(o0.ext hb1).far zq0 _
 rw[hX2];clear hX2 hb1 kT1 q1_2 t1_2 tf1_2 kS1;have zq2:=kS2.lt;obtain⟨-,-,-,q2_3,-⟩:=zc11 kS2;go_wp2_with fail;refine (ClnW_any a2 c2 s.wr X2 (HS.out.r2.ext BX2) (by omega)).mono ?_;rintro e2 w3 ⟨b2,d2,rfl,o2,hb2⟩;have kT2:=kS2.below_ hb2 zq2;have zt2:=kT2.lt;obtain⟨-,-,-,t2_3,-⟩:=zc11 kT2;have tf2_3:=kT2.frozen_ 3;go_upto_region 4 with fail;obtain⟨X3,hX3⟩:∃ V,w3.setCell ⟨w.heap.size,3,none⟩ (.slice b2 s.wr.length d2)=V:=⟨_,rfl⟩;have kS3:Blk X3 w.heap.size 35 (zkx s b0 d0 b1 d1 b2 d2 a3 c3 a4 c4 a5 c5 a6 c6 a7 c7).toArray:=by rw[←hX3];exact kT2.set_ 3 _
 have BX3:Below w.heap.size w X3:=by rw[←hX3];exact(BX2.trans (hb2.mono BX2.size)).setCell (p:=⟨w.heap.size,3,none⟩) (Nat.le_refl _) _
 have sz3:X2.heap.size≤X3.heap.size:=by rw[←hX3];simpa [World.setCell] using hb2.size
 replace o2:OwnE wrE X3 X2.heap.size b2 d2 s.wr:=by rw[←hX3];exact o2.far zq2 _
 replace o0:OwnE intE X3 X0.heap.size b0 d0 s.sl.refs:=by rw[←hX3];exact(o0.ext hb2).far zq0 _
 replace o1:OwnE boolE X3 X1.heap.size b1 d1 s.sl.busy:=by rw[←hX3];exact(o1.ext hb2).far zq1 _
 rw[hX3];clear hX3 hb2 kT2 q2_3 t2_3 tf2_3 kS2;have zq3:=kS3.lt;obtain⟨-,-,-,-,q3_4,-⟩:=zc11 kS3;go_wp2_with fail;refine (ClnR_any a3 c3 s.rd X3 (HS.out.r3.ext BX3) (by omega)).mono ?_;rintro e3 w4 ⟨b3,d3,rfl,o3,hb3⟩;have kT3:=kS3.below_ hb3 zq3;have zt3:=kT3.lt;obtain⟨-,-,-,-,t3_4,-⟩:=zc11 kT3;have tf3_4:=kT3.frozen_ 4;go_upto_region 5 with fail;obtain⟨X4,hX4⟩:∃ V,w4.setCell ⟨w.heap.size,4,none⟩ (.slice b3 s.rd.length d3)=V:=⟨_,rfl⟩;have kS4:Blk X4 w.heap.size 35 (zkx s b0 d0 b1 d1 b2 d2 b3 d3 a4 c4 a5 c5 a6 c6 a7 c7).toArray:=by rw[←hX4];exact kT3.set_ 4 _
 have BX4:Below w.heap.size w X4:=by rw[←hX4];exact(BX3.trans (hb3.mono BX3.size)).setCell (p:=⟨w.heap.size,4,none⟩) (Nat.le_refl _) _
 have sz4:X3.heap.size≤X4.heap.size:=by rw[←hX4];simpa [World.setCell] using hb3.size
 replace o3:OwnE rdE X4 X3.heap.size b3 d3 s.rd:=by rw[←hX4];exact o3.far zq3 _
 replace o0:OwnE intE X4 X0.heap.size b0 d0 s.sl.refs:=by rw[←hX4];exact(o0.ext hb3).far zq0 _
 replace o1:OwnE boolE X4 X1.heap.size b1 d1 s.sl.busy:=by rw[←hX4];exact(o1.ext hb3).far zq1 _
 replace o2:OwnE wrE X4 X2.heap.size b2 d2 s.wr:=by rw[←hX4];exact(o2.ext hb3).far zq2 _
 rw[hX4];clear hX4 hb3 kT3 q3_4 t3_4 tf3_4 kS3;have zq4:=kS4.lt;obtain⟨-,-,-,-,-,q4_5,-⟩:=zc11 kS4;go_wp2_with fail;refine (ClnI_any a4 c4 s.desc X4 (HS.out.r4.ext BX4) (by omega)).mono ?_;rintro e4 w5 ⟨b4,d4,rfl,o4,hb4⟩;have kT4:=kS4.below_ hb4 zq4;have zt4:=kT4.lt;obtain⟨-,-,-,-,-,t4_5,-⟩:=zc11 kT4;have tf4_5:=kT4.frozen_ 5;go_upto_region 6 with fail;obtain⟨X5,hX5⟩:∃ V,w5.setCell ⟨w.heap.size,5,none⟩ (.slice b4 s.desc.length d4)=V:=⟨_,rfl⟩;have kS5:Blk X5 w.heap.size 35 (zkx s b0 d0 b1 d1 b2 d2 b3 d3 b4 d4 a5 c5 a6 c6 a7 c7).toArray:=by rw[←hX5];exact kT4.set_ 5 _
 have BX5:Below w.heap.size w X5:=by rw[←hX5];exact(BX4.trans (hb4.mono BX4.size)).setCell (p:=⟨w.heap.size,5,none⟩) (Nat.le_refl _) _
 have sz5:X4.heap.size≤X5.heap.size:=by rw[←hX5];simpa [World.setCell] using hb4.size
 replace o4:OwnE intE X5 X4.heap.size b4 d4 s.desc:=by rw[←hX5];exact o4.far zq4 _
 replace o0:OwnE intE X5 X0.heap.size b0 d0 s.sl.refs:=by rw[←hX5];exact(o0.ext hb4).far zq0 _
 replace o1:OwnE boolE X5 X1.heap.size b1 d1 s.sl.busy:=by rw[←hX5];exact(o1.ext hb4).far zq1 _
 replace o2:OwnE wrE X5 X2.heap.size b2 d2 s.wr:=by rw[←hX5];exact(o2.ext hb4).far zq2 _
 replace o3:OwnE rdE X5 X3.heap.size b3 d3 s.rd:=by rw[←hX5];exact(o3.ext hb4).far zq3 _
 rw[hX5];clear hX5 hb4 kT4 q4_5 t4_5 tf4_5 kS4;have p04:Part b0 d0 b4 d4:=u0.part o4 (by omega);have u4:OwnE intE X5 X4.heap.size b4 d4 s.desc:=o4;have zq5:=kS5.lt;obtain⟨-,-,-,-,-,-,q5_6,-⟩:=zc11 kS5;go_wp2_with fail;refine (ClnC_any a5 c5 s.dk.cells X5 (HS.out.r5.ext BX5) (by omega)).mono ?_;rintro e5 w6 ⟨b5,d5,rfl,o5,hb5⟩;have kT5:=kS5.below_ hb5 zq5;have zt5:=kT5.lt;obtain⟨-,-,-,-,-,-,t5_6,-⟩:=zc11 kT5;have tf5_6:=kT5.frozen_ 6;go_upto_region 7 with fail;obtain⟨X6,hX6⟩:∃ V,w6.setCell ⟨w.heap.size,6,none⟩ (.slice b5 s.dk.cells.length d5)=V:=⟨_,rfl⟩;have kS6:Blk X6 w.heap.size 35 (zkx s b0 d0 b1 d1 b2 d2 b3 d3 b4 d4 b5 d5 a6 c6 a7 c7).toArray:=by rw[←hX6];exact kT5.set_ 6 _
 have BX6:Below w.heap.size w X6:=by rw[←hX6];exact(BX5.trans (hb5.mono BX5.size)).setCell (p:=⟨w.heap.size,6,none⟩) (Nat.le_refl _) _
 have sz6:X5.heap.size≤X6.heap.size:=by rw[←hX6];simpa [World.setCell] using hb5.size
 replace o5:OwnE ctE X6 X5.heap.size b5 d5 s.dk.cells:=by rw[←hX6];exact o5.far zq5 _
 replace o0:OwnE intE X6 X0.heap.size b0 d0 s.sl.refs:=by rw[←hX6];exact(o0.ext hb5).far zq0 _
 replace o1:OwnE boolE X6 X1.heap.size b1 d1 s.sl.busy:=by rw[←hX6];exact(o1.ext hb5).far zq1 _
 replace o2:OwnE wrE X6 X2.heap.size b2 d2 s.wr:=by rw[←hX6];exact(o2.ext hb5).far zq2 _
 replace o3:OwnE rdE X6 X3.heap.size b3 d3 s.rd:=by rw[←hX6];exact(o3.ext hb5).far zq3 _
 replace o4:OwnE intE X6 X4.heap.size b4 d4 s.desc:=by rw[←hX6];exact(o4.ext hb5).far zq4 _
 rw[hX6];clear hX6 hb5 kT5 q5_6 t5_6 tf5_6 kS5;have zq6:=kS6.lt;obtain⟨-,-,-,-,-,-,-,q6_7,-⟩:=zc11 kS6;go_wp2_with fail;refine (ClnJ_any a6 c6 s.dk.jobs X6 (HS.out.r6.ext BX6) (by omega)).mono ?_;rintro e6 w7 ⟨b6,d6,rfl,o6,hb6⟩;have kT6:=kS6.below_ hb6 zq6;have zt6:=kT6.lt;obtain⟨-,-,-,-,-,-,-,t6_7,-⟩:=zc11 kT6;have tf6_7:=kT6.frozen_ 7;go_upto_region 8 with fail;obtain⟨X7,hX7⟩:∃ V,w7.setCell ⟨w.heap.size,7,none⟩ (.slice b6 s.dk.jobs.length d6)=V:=⟨_,rfl⟩;have kS7:Blk X7 w.heap.size 35 (zkx s b0 d0 b1 d1 b2 d2 b3 d3 b4 d4 b5 d5 b6 d6 a7 c7).toArray:=by rw[←hX7];exact kT6.set_ 7 _
 have BX7:Below w.heap.size w X7:=by rw[←hX7];exact(BX6.trans (hb6.mono BX6.size)).setCell (p:=⟨w.heap.size,7,none⟩) (Nat.le_refl _) _
 have sz7:X6.heap.size≤X7.heap.size:=by rw[←hX7];simpa [World.setCell] using hb6.size
 replace o6:OwnE jbE X7 X6.heap.size b6 d6 s.dk.jobs:=by rw[←hX7];exact o6.far zq6 _
 replace o0:OwnE intE X7 X0.heap.size b0 d0 s.sl.refs:=by rw[←hX7];exact(o0.ext hb6).far zq0 _
 replace o1:OwnE boolE X7 X1.heap.size b1 d1 s.sl.busy:=by rw[←hX7];exact(o1.ext hb6).far zq1 _
 replace o2:OwnE wrE X7 X2.heap.size b2 d2 s.wr:=by rw[←hX7];exact(o2.ext hb6).far zq2 _
 replace o3:OwnE rdE X7 X3.heap.size b3 d3 s.rd:=by rw[←hX7];exact(o3.ext hb6).far zq3 _
 replace o4:OwnE intE X7 X4.heap.size b4 d4 s.desc:=by rw[←hX7];exact(o4.ext hb6).far zq4 _
 replace o5:OwnE ctE X7 X5.heap.size b5 d5 s.dk.cells:=by rw[←hX7];exact(o5.ext hb6).far zq5 _
 rw[hX7];clear hX7 hb6 kT6 q6_7 t6_7 tf6_7 kS6;have zq7:=kS7.lt;obtain⟨-,-,-,-,-,-,-,-,-,-,q7_10⟩:=zc11 kS7;go_wp2_with fail;refine (ClnI_any a7 c7 s.po.free X7 (HS.out.r7.ext BX7) (by omega)).mono ?_;rintro e7 w8 ⟨b7,d7,rfl,o7,hb7⟩;have kT7:=kS7.below_ hb7 zq7;have zt7:=kT7.lt;obtain⟨-,-,-,-,-,-,-,-,-,-,t7_10⟩:=zc11 kT7;have tf7_10:=kT7.frozen_ 10;go_upto_region 9 with fail;obtain⟨X8,hX8⟩:∃ V,w8.setCell ⟨w.heap.size,10,none⟩ (.slice b7 s.po.free.length d7)=V:=⟨_,rfl⟩;have kS8:Blk X8 w.heap.size 35 (zkx s b0 d0 b1 d1 b2 d2 b3 d3 b4 d4 b5 d5 b6 d6 b7 d7).toArray:=by rw[←hX8];exact kT7.set_ 10 _
 have BX8:Below w.heap.size w X8:=by rw[←hX8];exact(BX7.trans (hb7.mono BX7.size)).setCell (p:=⟨w.heap.size,10,none⟩) (Nat.le_refl _) _
 have sz8:X7.heap.size≤X8.heap.size:=by rw[←hX8];simpa [World.setCell] using hb7.size
 replace o7:OwnE intE X8 X7.heap.size b7 d7 s.po.free:=by rw[←hX8];exact o7.far zq7 _
 replace o0:OwnE intE X8 X0.heap.size b0 d0 s.sl.refs:=by rw[←hX8];exact(o0.ext hb7).far zq0 _
 replace o1:OwnE boolE X8 X1.heap.size b1 d1 s.sl.busy:=by rw[←hX8];exact(o1.ext hb7).far zq1 _
 replace o2:OwnE wrE X8 X2.heap.size b2 d2 s.wr:=by rw[←hX8];exact(o2.ext hb7).far zq2 _
 replace o3:OwnE rdE X8 X3.heap.size b3 d3 s.rd:=by rw[←hX8];exact(o3.ext hb7).far zq3 _
 replace o4:OwnE intE X8 X4.heap.size b4 d4 s.desc:=by rw[←hX8];exact(o4.ext hb7).far zq4 _
 replace o5:OwnE ctE X8 X5.heap.size b5 d5 s.dk.cells:=by rw[←hX8];exact(o5.ext hb7).far zq5 _
 replace o6:OwnE jbE X8 X6.heap.size b6 d6 s.dk.jobs:=by rw[←hX8];exact(o6.ext hb7).far zq6 _
 rw[hX8];clear hX8 hb7 kT7 q7_10 t7_10 tf7_10 kS7;have p47:Part b4 d4 b7 d7:=u4.part o7 (by omega);obtain⟨g0,g1,g2,g3,g4,g5,g6,g7,g8,g9,g10⟩:=zc11 kS8;have zg:=kS8.lt;go_wp2_with fail;go_ret;have BA:Below X8.heap.size X8 (X8.alloc (.cells (zkx s b0 d0 b1 d1 b2 d2 b3 d3 b4 d4 b5 d5 b6 d6 b7 d7).toArray 87)):=(Below.refl _ _).alloc (Nat.le_refl _) _
 refine⟨X8.heap.size,⟨b0,d0,b1,d1,b2,d2,b3,d3,b4,d4,b5,d5,b6,d6,b7,d7⟩,rfl,⟨Blk.new_ rfl rfl,⟨(o0.ext BA).base_ ?_,(o1.ext BA).base_ ?_,((o2.ext BA).base_ ?_).mn,(o3.ext BA).base_ ?_,(o4.ext BA).base_ ?_,(o5.ext BA).base_ ?_,(o6.ext BA).base_ ?_,(o7.ext BA).base_ ?_,p04,p47.symm⟩,?_⟩,BX8.trans (BA.mono BX8.size)⟩ <;> omega
def frB(g:Nat→Bool):Array Value:=((List.range 256).map fun n=>Value.bool (g n)).toArray
theorem frB_at(g:Nat→Bool){m:Nat}(h:m<256):(frB g)[m]? = some (.bool (g m)):=by
 unfold frB;rw[List.getElem?_toArray,List.getElem?_map,List.getElem?_range h];rfl
theorem frB_set(g:Nat→Bool)(m:Nat):(frB g).setIfInBounds m (.bool true)=frB (fun n=>g n || n == m):=by
 unfold frB;rw[List.setIfInBounds_toArray]
 congr 1
 apply List.ext_getElem?;intro i
 by_cases h:m=i
 ·subst h
  by_cases hm:m<256
  ·rw[List.getElem?_set_self (by simpa using hm),List.getElem?_map,List.getElem?_range hm]
   simp
  ·rw[List.getElem?_eq_none (by simp;omega),List.getElem?_eq_none (by simp;omega)]
 ·rw[List.getElem?_set_ne h,List.getElem?_map,List.getElem?_map]
  by_cases hi:i<256
  ·rw[List.getElem?_range hi]
   have:(i == m)=false:=by simpa using Ne.symm h
   simp[this]
  ·rw[List.getElem?_eq_none (by simp;omega)]
   rfl
theorem frB_congr{g g':Nat→Bool}(h:∀ n,n<256→g n=g' n):frB g=frB g':=by
 unfold frB
 congr 1
 exact List.map_congr_left fun n hn=>by rw[h n (List.mem_range.1 hn)]
theorem zc256:Tryz.zeroCells163=frB (fun _=>false):=by kernel_rfl
theorem SR.of_frB{w:World}{B:Nat}{t:TypeId}{g:Nat→Bool}(h:Blk w B t (frB g)){n:Nat}(hn:n≤256):SR boolE w (some ⟨B,0,none⟩) ((List.range n).map g):=fun hp=>by
 refine⟨B,0,rfl,h.lt,fun j x hx => ?_⟩;have hl:(boolE.flat ((List.range n).map g)).length=n:=by rw[Elt.flat_length];simp[boolE]
 have hj:j<n:=by have:=(List.getElem?_eq_some_iff.1 hx).1;omega
 have h1:=Elt.flat_at (E:=boolE) (l:=(List.range n).map g) (k:=j) (j:=0) (x:=g j) (u:=.bool (g j)) (by rw[List.getElem?_map,List.getElem?_range hj];rfl) rfl;rw[show j*boolE.sz+0=j by show j*1+0=j;omega,hx] at h1;injection h1 with h1
 subst h1;rw[Nat.zero_add];exact(h.cell_ j).trans (frB_at g (by omega))
theorem bs_zero:frB (fun _=>false)=frB (bsW []):=frB_congr fun n _=>by simp[bsW]
theorem bs_succ{js:List Jb}{k:Nat}{j:Jb}(h:js[k]? = some j){q:Nat}(hq:j.slot=(q:Int)):(frB (bsW (js.take k))).setIfInBounds q (.bool true)=frB (bsW (js.take (k+1))):=by
 rw[frB_set]
 refine frB_congr fun n _ => ?_
 unfold bsW;rw[List.take_add_one,h];show _=List.any (js.take k++[j]) _;rw[List.any_append]
 congr 1
 show (n == q)=(decide (j.slot=(n:Int)) || false);rw[hq,Bool.or_false]
 by_cases e:n=q
 ·subst e;simp
 ·have:¬ (q:Int)=(n:Int):=fun h=>e (by omega)
  simp[e,this]
end Go.Proofs.YthijbipidbjpfaaGreatDoor
