import Derived.Test.YthijbipidbjpfaaGreatDoorZP07
import Derived.Test.YthijbipidbjpfaaGreatDoorZP23
import Derived.BigQuiet
import Derived.Test.YthijbipidbjpfaaGreatDoorZP00
import Derived.Test.YthijbipidbjpfaaGreatDoorZP03
import Derived.Test.YthijbipidbjpfaaGreatDoorZP14
set_option linter.unusedSimpArgs false
set_option linter.unusedVariables false
set_option maxRecDepth 100000
set_option maxHeartbeats 8000000
namespace Go.Proofs.YthijbipidbjpfaaGreatDoor
open Go.RowKit Go.Maps
def jobI(js:List Jb)(n:Int):Int:=match js.findIdx? (fun j=>decide (j.slot=n)) with
 | none => -1
 | some i=>i
def tmsL(l:List Wr)(p:Int):Nat:=l.countP fun v=>decide (v.2.2=p)
def wtdL(l:List Wr)(n:Int):Bool:=l.any fun v=>decide (v.1=n) && decide (v.2.2≠0)
def mtG:List Jb→List Wr→List Wr→Bool
 | [],ws,rs=>ws.isEmpty && rs.isEmpty
 | ⟨true,s,f,_⟩::js,v::ws,rs=>decide (v.1=s∧v.2.1=f) && mtG js ws rs
 | ⟨true,_,_,_⟩::_,[],_=>false
 | ⟨false,s,f,_⟩::js,ws,v::rs=>decide (v.1=s∧v.2.1=f) && mtG js ws rs
 | ⟨false,_,_,_⟩::_,_,[]=>false
theorem pair_iff{v:Wr}{s f:Int}:decide (v.1=s∧v.2.1=f)=decide ((s,f)=(v.1,v.2.1)):=by
 refine decide_eq_decide.2 ?_;rw[Prod.mk.injEq];exact⟨fun h=>⟨h.1.symm,h.2.symm⟩,fun h=>⟨h.1.symm,h.2.symm⟩⟩
theorem mtG_iff:∀ (js:List Jb) (ws rs:List Wr),mtG js ws rs=true↔jvs js true=vvs ws∧jvs js false=vvs rs
 | [],ws,rs=>by
  unfold mtG jvs vvs;rw[Bool.and_eq_true,List.isEmpty_iff,List.isEmpty_iff]
  constructor
  ·rintro ⟨rfl,rfl⟩;exact⟨rfl,rfl⟩
  ·rintro ⟨h1,h2⟩
   exact⟨List.map_eq_nil_iff.1 h1.symm,List.map_eq_nil_iff.1 h2.symm⟩
 | ⟨true,s,f,d⟩::js,v::ws,rs=>by
  have ih:=mtG_iff js ws rs;have e1:jvs (⟨true,s,f,d⟩::js) true=(s,f)::jvs js true:=rfl;have e2:jvs (⟨true,s,f,d⟩::js) false=jvs js false:=rfl;have e3:vvs (v::ws)=(v.1,v.2.1)::vvs ws:=rfl;rw[mtG,pair_iff,Bool.and_eq_true,ih,decide_eq_true_eq,e1,e2,e3,List.cons.injEq,and_assoc]
 | ⟨true,s,f,d⟩::js,[],rs=>by
  have e1:jvs (⟨true,s,f,d⟩::js) true=(s,f)::jvs js true:=rfl;rw[mtG,e1];exact⟨fun h=>(by cases h),fun h=>(by cases h.1)⟩
 | ⟨false,s,f,d⟩::js,ws,v::rs=>by
  have ih:=mtG_iff js ws rs;have e1:jvs (⟨false,s,f,d⟩::js) false=(s,f)::jvs js false:=rfl;have e2:jvs (⟨false,s,f,d⟩::js) true=jvs js true:=rfl;have e3:vvs (v::rs)=(v.1,v.2.1)::vvs rs:=rfl;rw[mtG,pair_iff,Bool.and_eq_true,ih,decide_eq_true_eq,e1,e2,e3,List.cons.injEq];exact⟨fun h=>⟨h.2.1,h.1,h.2.2⟩,fun h=>⟨h.2.1,h.1,h.2.2⟩⟩
 | ⟨false,s,f,d⟩::js,ws,[]=>by
  have e1:jvs (⟨false,s,f,d⟩::js) false=(s,f)::jvs js false:=rfl;rw[mtG,e1];exact⟨fun h=>(by cases h),fun h=>(by cases h.2)⟩
theorem tmsL_zero{l:List Wr}{p:Int}:tmsL l p=0 ↔ ∀ v ∈ l,v.2.2≠p:=by
 unfold tmsL;rw[List.countP_eq_zero];simp
theorem nodup_tms:∀ (l:List Wr),((l.filter fun v=>decide (v.2.2≠0)).map (·.2.2)).Nodup ↔ ∀ p,p≠0→tmsL l p≤1
 | []=>by simp[tmsL]
 | v::l=>by
  have ih:=nodup_tms l
  have hc:∀ p,tmsL (v::l) p=tmsL l p+if v.2.2=p then 1 else 0:=fun p=>by
   unfold tmsL;rw[List.countP_cons];simp
  by_cases h:v.2.2=0
  ·rw[List.filter_cons_of_neg (by simpa using h),ih]
   constructor
   ·intro k p hp
    rw[hc,if_neg (by rw[h];exact fun e=>hp e.symm)];exact k p hp
   ·intro k p hp
    have:=k p hp;rw[hc,if_neg (by rw[h];exact fun e=>hp e.symm)] at this;exact this
  ·rw[List.filter_cons_of_pos (by simpa using h),List.map_cons,List.nodup_cons,ih]
   have hm:v.2.2 ∉ (l.filter fun v=>decide (v.2.2≠0)).map (·.2.2)↔tmsL l v.2.2=0:=by
    rw[tmsL_zero]
    constructor
    ·intro k x hx e
     exact k (List.mem_map.2 ⟨x,List.mem_filter.2 ⟨hx,by rw[decide_eq_true_eq,e];exact h⟩,e⟩)
    ·intro k hx
     obtain⟨x,hx,e⟩:=List.mem_map.1 hx;exact k x (List.mem_filter.1 hx).1 e
   rw[hm]
   constructor
   ·rintro ⟨k1,k2⟩ p hp
    rw[hc]
    by_cases e:v.2.2=p
    ·rw[if_pos e,←e,k1];omega
    ·rw[if_neg e];exact k2 p hp
   ·intro k
    refine⟨?_,fun p hp => ?_⟩
    ·have:=k v.2.2 h
     rw[hc,if_pos rfl] at this;omega
    ·have:=k p hp
     rw[hc] at this;omega
theorem bsW_job(js:List Jb)(i:Nat):bsW js i=decide (0≤jobI js i):=by
 unfold bsW jobI
 cases h:js.findIdx? (fun j=>decide (j.slot=(i:Int))) with
 | none=>
  rw[List.findIdx?_eq_none_iff] at h;rw[List.any_eq_false.2 fun x hx=>by simpa using h x hx];rfl
 | some k=>
  obtain⟨hk,h1,_⟩:=List.findIdx?_eq_some_iff_getElem.1 h;rw[List.any_eq_true.2 ⟨js[k],List.getElem_mem _,h1⟩];exact(decide_eq_true (by show (0:Int)≤k;omega)).symm
theorem map_range_iff{l:List Bool}{f:Nat→Bool}:l=(List.range l.length).map f ↔ ∀ i,i<l.length→l.getD i false=f i:=by
 constructor
 ·intro h i hi
  rw[List.getD_eq_getElem?_getD,List.getElem?_eq_getElem hi,Option.getD_some];have:l[i]? = ((List.range l.length).map f)[i]?:=by rw[←h]
  rw[List.getElem?_eq_getElem hi,List.getElem?_map,List.getElem?_range hi] at this;simpa using this
 ·intro h
  refine List.ext_getElem (by simp) fun i h1 h2 => ?_
  have:=h i h1;rw[List.getD_eq_getElem?_getD,List.getElem?_eq_getElem h1,Option.getD_some] at this;simpa using this
theorem agR_iff{s:Swp}(h1:OkT s.sl)(h2:Valid s.wr)(h3:OkD s.dk):agW s=true ↔
  (s.sl.refs.length=s.dk.cells.length∧s.dk.room=s.po.size∧(s.wr.length:Int)≤s.cap)∧mtG s.dk.jobs s.wr s.rd=true ∧
  (s.desc.length=s.dk.jobs.length∧(tknP s.po).length=s.desc.length∧∀ d ∈ tknP s.po,d ∈ s.desc)∧(∀ v ∈ s.rd,0≤v.2.2∧v.2.2≤8) ∧
  (∀ p:Int,1≤p→p≤8→tmsL (s.wr++s.rd) p≤1)∧∀ i:Nat,i<s.sl.refs.length→bsyT s.sl i=decide (0≤jobI s.dk.jobs i)∧¬ (wtdL (s.wr++s.rd) i=true∧refT s.sl i=0):=by
 have hw:∀ v ∈ s.wr,v.2.2=0∨(1≤v.2.2∧v.2.2≤8):=fun v hv=>by
  have:=h2.2.1 v hv;unfold okW at this;simp at this;exact this.2.2
 have hnd:((wtW s).map (·.1)).Nodup ↔ ∀ p,p≠0→tmsL (s.wr++s.rd) p≤1:=by
  rw[←nodup_tms];unfold wtW;rw[List.map_map];rfl
 have hmem:∀ x,x ∈ wtW s ↔ ∃ v ∈ s.wr++s.rd,v.2.2≠0∧x=(v.2.2,v.1):=fun x=>by
  unfold wtW
  constructor
  ·intro h
   obtain⟨v,hv,e⟩:=List.mem_map.1 h;exact⟨v,(List.mem_filter.1 hv).1,by simpa using (List.mem_filter.1 hv).2,e.symm⟩
  ·rintro ⟨v,hv,h0,rfl⟩
   exact List.mem_map.2 ⟨v,List.mem_filter.2 ⟨hv,by simpa using h0⟩,rfl⟩
 have hwd:∀ n,wtdL (s.wr++s.rd) n=true ↔ ∃ v ∈ s.wr++s.rd,v.1=n∧v.2.2≠0:=fun n=>by
  unfold wtdL;rw[List.any_eq_true];simp
 have hrf:∀ i,0≤refT s.sl i:=fun i=>by
  unfold refT;rw[List.getD_eq_getElem?_getD]
  cases h:s.sl.refs[i]? with
  | none=>exact Int.le_refl _
  | some r=>exact(h1.range r (List.mem_of_getElem? h)).1
 have hbl:=h1.blen;rw[agW_ok,mtG_iff]
 constructor
 ·rintro ⟨a1,a2,a3,a4,a5,a6,a7,⟨a8,a9⟩,a10⟩
  refine⟨a1,⟨a2,a3⟩,⟨a5,a6,a7⟩,fun v hv => ?_,fun p p1 _=>hnd.1 a8 p (by omega),fun i hi=>⟨?_,?_⟩⟩
  ·by_cases e:v.2.2=0
   ·omega
   ·have:=a9 (v.2.2,v.1) ((hmem _).2 ⟨v,by simp[hv],e,rfl⟩)
    omega
  ·rw[←bsW_job]
   exact map_range_iff.1 a4 i (by omega)
  ·rintro ⟨b1,b2⟩
   obtain⟨v,hv,e,h0⟩:=(hwd _).1 b1;have:=a10 (v.2.2,v.1) ((hmem _).2 ⟨v,hv,h0,rfl⟩);dsimp only at this;rw[e,Int.toNat_natCast] at this;omega
 ·rintro ⟨a1,⟨a2,a3⟩,⟨a5,a6,a7⟩,b1,b2,b3⟩
  have hall:∀ v ∈ s.wr++s.rd,v.2.2=0∨(1≤v.2.2∧v.2.2≤8):=fun v hv=>by
   rcases List.mem_append.1 hv with hv | hv
   ·exact hw v hv
   ·have:=b1 v hv;omega
  have hsl:∀ v ∈ s.wr++s.rd,0≤v.1∧v.1<s.sl.refs.length:=fun v hv=>by
   have key:∀ (b:Bool) (vs:List Wr),jvs s.dk.jobs b=vvs vs→v ∈ vs→0≤v.1∧v.1<s.sl.refs.length:=fun b vs hm hx=>by
    have hv:(v.1,v.2.1) ∈ jvs s.dk.jobs b:=by rw[hm];exact List.mem_map.2 ⟨v,hx,rfl⟩
    obtain⟨j,hj,e⟩:=List.mem_map.1 hv;have:=h3.inr j (List.mem_filter.1 hj).1;injection e with e _
    omega
   rcases List.mem_append.1 hv with hv | hv
   ·exact key _ _ a2 hv
   ·exact key _ _ a3 hv
  refine⟨a1,a2,a3,map_range_iff.2 fun i hi => ?_,a5,a6,a7,⟨hnd.2 fun p hp => ?_,fun x hx => ?_⟩,fun x hx => ?_⟩
  ·rw[bsW_job]
   exact(b3 i (by omega)).1
  ·by_cases e:1≤p∧p≤8
   ·exact b2 p e.1 e.2
   ·rw[tmsL_zero.2 fun v hv k=>by have:=hall v hv;omega]
    omega
  ·obtain⟨v,hv,h0,rfl⟩:=(hmem _).1 hx
   have:=hall v hv;dsimp only;omega
  ·obtain⟨v,hv,h0,rfl⟩:=(hmem _).1 hx
   have hr:=hsl v hv;have:=(b3 v.1.toNat (by omega)).2;have h:=hrf v.1.toNat
   have hn:refT s.sl v.1.toNat≠0:=fun e=>this ⟨(hwd _).2 ⟨v,hv,by omega,h0⟩,e⟩
   dsimp only;omega
theorem rdSlot_any(A B:Option Addr)(c d n m:Nat)(room x:Int)(w:World):Calls Tryz.prog 166 #[.agg #[.slice A n c,.slice B m d,.int .i64 room],.int .i64 x] w fun e w'=>e=.returned (.bool (decide (0≤x∧x<n)))∧Below w.heap.size w w':=by
 have HE:Hid (decide (0≤x∧x<(n:Int))=(decide (x≥0) && decide (x<(n:Int)))):=by show _=_;simp
 cases d1:decide (x≥0) with
 | true=>
  go_enter Tryz.func166,Tryz.ntmps166
  go_wp2_with fail;go_ret;exact⟨by rw[HE.out,d1];simp,zbl⟩
 | false=>
  go_enter Tryz.func166,Tryz.ntmps166
  go_wp2_with fail;go_ret;exact⟨by rw[HE.out,d1];simp,zbl⟩
theorem rdFrame_any(x:Int)(w:World):Calls Tryz.prog 167 #[.int .i64 x] w fun e w'=>e=.returned (.bool (decide (0≤x∧x<256)))∧w=w':=by
 have HE:Hid (decide (0≤x∧x<256)=(decide (x≥0) && decide (x<256))):=by show _=_;simp
 cases d1:decide (x≥0) with
 | true=>
  go_enter Tryz.func167,Tryz.ntmps167
  go_wp2_with fail;go_ret;exact⟨by rw[HE.out,d1];simp,rfl⟩
 | false=>
  go_enter Tryz.func167,Tryz.ntmps167
  go_wp2_with fail;go_ret;exact⟨by rw[HE.out,d1];simp,rfl⟩
theorem hitD_succ{l:List Jb}{q:Nat}{y:Jb}{a b:Int}(h:l[q]? = some y):hitD (l.take (q+1)) a b=(hitD (l.take q) a b || decide (y.slot=a∨y.frame=b)):=by
 unfold hitD;rw[List.take_add_one,h,List.any_append];simp
theorem hitD_mono{l:List Jb}{q k:Nat}{a b:Int}(hq:q≤k)(h:hitD (l.take q) a b=true):hitD (l.take k) a b=true:=by
 unfold hitD at *;rw[List.any_eq_true] at *;obtain⟨y,hy,h⟩:=h;exact⟨y,(List.take_subset_take_left l hq) hy,h⟩
theorem rdCheck_any(A B:Option Addr)(c d:Nat)(k0:Dsk)(w:World)(hb:SR jbE w B k0.jobs)(la:k0.cells.length≤1000)(lb:k0.jobs.length≤1000){z:Int}{n0:Nat}(h:chkD k0=(z,n0)) :
  Calls Tryz.prog 132 #[dkV A c B d k0] w fun e w'=>e=.returned (.tuple #[.int .i64 z,.int .i64 n0])∧Below w.heap.size w w':=by
 obtain⟨n,hn⟩:∃ n,k0.cells.length=n:=⟨_,rfl⟩;obtain⟨m,hm⟩:∃ m,k0.jobs.length=m:=⟨_,rfl⟩;obtain⟨room,hr⟩:∃ room,k0.room=room:=⟨_,rfl⟩;unfold dkV;unfold chkD at h;rw[hn,hm,hr] at h ⊢;have HB:=Lib.hid hb;have HN:=Lib.hid hn;have HM:=Lib.hid hm;rw[hn] at la;rw[hm] at lb;clear hb hn hm hr
 by_cases h1:n<1∨256<n∨room<1∨32<room
 ·rw[if_pos h1] at h
  cases h
  rcases (by omega:n<1∨(1≤n∧256<n)∨(1≤n∧n≤256∧room<1)∨(1≤n∧n≤256∧1≤room∧32<room)) with h1 | h1 | h1 | h1
  ·have g1:decide ((n:Int)<1)=true:=by simp;omega
   clear h1
   go_enter Tryz.func132,Tryz.ntmps132
   go_wp2_with fail;refine bodyPost_ret (by simp[results,Tryz.results132,go_sem] <;> rfl) rfl ?_;exact⟨rfl,zbl⟩
  ·have g1:decide ((n:Int)<1)=false:=by simp;omega
   have g2:decide ((n:Int)>256)=true:=by simp;omega
   clear h1
   go_enter Tryz.func132,Tryz.ntmps132
   go_wp2_with fail;refine bodyPost_ret (by simp[results,Tryz.results132,go_sem] <;> rfl) rfl ?_;exact⟨rfl,zbl⟩
  ·have g1:decide ((n:Int)<1)=false:=by simp;omega
   have g2:decide ((n:Int)>256)=false:=by simp;omega
   have g3:decide (room<1)=true:=by simp;omega
   clear h1
   go_enter Tryz.func132,Tryz.ntmps132
   go_wp2_with fail;refine bodyPost_ret (by simp[results,Tryz.results132,go_sem] <;> rfl) rfl ?_;exact⟨rfl,zbl⟩
  ·have g1:decide ((n:Int)<1)=false:=by simp;omega
   have g2:decide ((n:Int)>256)=false:=by simp;omega
   have g3:decide (room<1)=false:=by simp;omega
   have g4:decide (room>32)=true:=by simp;omega
   clear h1
   go_enter Tryz.func132,Tryz.ntmps132
   go_wp2_with fail;refine bodyPost_ret (by simp[results,Tryz.results132,go_sem] <;> rfl) rfl ?_;exact⟨rfl,zbl⟩
 ·rw[if_neg h1] at h
  have g1:decide ((n:Int)<1)=false:=by simp;omega
  have g2:decide ((n:Int)>256)=false:=by simp;omega
  have g3:decide (room<1)=false:=by simp;omega
  have g4:decide (room>32)=false:=by simp;omega
  by_cases h2:room<m
  ·rw[if_pos h2] at h
   cases h
   have g5:decide ((m:Int)>room)=true:=by simpa using h2
   go_enter Tryz.func132,Tryz.ntmps132
   go_wp2_with fail;refine bodyPost_ret (by simp[results,Tryz.results132,go_sem] <;> rfl) rfl ?_;exact⟨rfl,zbl⟩
  ·rw[if_neg h2] at h
   have g5:decide ((m:Int)>room)=false:=by simp;omega
   have HH:Hid (chkDG k0 (k0.jobs.take 0) (k0.jobs.drop 0)=(z,n0)):=by show _=_;simpa using h
   have hm32:m≤32:=by omega
   clear h h1 h2
   go_enter Tryz.func132,Tryz.ntmps132
   go_wp2_with fail;obtain⟨V,hV⟩:∃ V,w.alloc (.cells #[.slice A n c,.slice B m d,.int .i64 room] 31)=V:=⟨_,rfl⟩;have kD:Blk V w.heap.size 31 #[.slice A n c,.slice B m d,.int .i64 room]:=by rw[←hV];exact zbk
   have BV:Below w.heap.size w V:=by rw[←hV];exact zbl
   have zD:=kD.lt;rw[hV];clear hV g1 g2 g3 g4 g5
   go_loopw [4] (fun i wr=>∃ k:Nat,k≤m∧i=.int .i64 k∧Hid (chkDG k0 (k0.jobs.take k) (k0.jobs.drop k)=(z,n0))∧Below V.heap.size V wr) (fun i _=>m - (intOf i).toNat)
   case atStart=>exact⟨0,by omega,rfl,HH.out,Below.refl _ _⟩
   case round=>
    obtain⟨k,hk,rfl,HR,hbw⟩:=hrel;have b1:=zbt BV hbw;have kD1:=kD.below_ hbw zD;have zD1:=kD1.lt;obtain⟨q0,q1,q2⟩:=zc3 kD1
    by_cases hlt:k<m
    ·have i1:(k:Int)<m:=by omega
     obtain⟨b,off,x,rfl,hbl,hx,hc⟩:=(HB.out.ext b1).at_ (k:=k) (by rw[HM.out];exact hlt);have hcc:=HR.out;rw[chkDG_at hx] at hcc;have HC:=Lib.hid hcc;clear hx hcc HR HH;obtain⟨jw,js,jf,⟨x0,x1,x2,x3,x4,x5,x6,x7⟩⟩:=x;have e0:wr.cell? ⟨b,off+k*11,none⟩=some (.bool jw):=hc 0 _ rfl;have e1:wr.cell? ⟨b,off+k*11+1,none⟩=some (.int .i64 js):=hc 1 _ rfl;have e2:wr.cell? ⟨b,off+k*11+2,none⟩=some (.int .i64 jf):=hc 2 _ rfl;have e3:wr.cell? ⟨b,off+k*11+3,none⟩=some (.int .u64 x0):=hc 3 _ rfl;have e4:wr.cell? ⟨b,off+k*11+4,none⟩=some (.int .u64 x1):=hc 4 _ rfl;have e5:wr.cell? ⟨b,off+k*11+5,none⟩=some (.int .u64 x2):=hc 5 _ rfl;have e6:wr.cell? ⟨b,off+k*11+6,none⟩=some (.int .u64 x3):=hc 6 _ rfl;have e7:wr.cell? ⟨b,off+k*11+7,none⟩=some (.int .u64 x4):=hc 7 _ rfl;have e8:wr.cell? ⟨b,off+k*11+8,none⟩=some (.int .u64 x5):=hc 8 _ rfl;have e9:wr.cell? ⟨b,off+k*11+9,none⟩=some (.int .u64 x6):=hc 9 _ rfl;have e10:wr.cell? ⟨b,off+k*11+10,none⟩=some (.int .u64 x7):=hc 10 _ rfl;go_upto_region 9 with fail;obtain⟨V6,hV6⟩:∃ V6,wr.alloc (.cells (zkj jw js jf x0 x1 x2 x3 x4 x5 x6 x7).toArray 115)=V6:=⟨_,rfl⟩;have kJ:=za hV6;have B6:=zab hV6;rw[hV6];have kD6:=kD1.below_ B6 zD1;have b6:=zbt hbw B6;have zJ:=kJ.lt;have zD6:=kD6.lt;clear hV6 hc e0 e1 e2 e3 e4 e5 e6 e7 e8 e9 e10 q0 q1 q2;obtain⟨q0,q1,q2⟩:=zc3 kD6;obtain⟨-,j1,j2,-⟩:=zc11 kJ;go_wp2_with fail;refine (rdSlot_any A (some ⟨b,off,none⟩) c d n m room js V6).mono ?_;rintro e1 w1 ⟨rfl,hb1⟩;have kD7:=kD6.below_ hb1 zD6;have kJ7:=kJ.below_ hb1 zJ;have b7:=zbt b6 hb1;have zJ7:=kJ7.lt;have zD7:=kD7.lt;have zrw:wr.heap.size≤w1.heap.size:=Nat.le_of_lt zJ7;have b7r:=zbt B6 hb1;clear hb1 q0 q1 q2 j1 j2;obtain⟨j0,j1,j2,j3,j4,j5,j6,j7,j8,j9,j10⟩:=zc11 kJ7;obtain⟨q0,q1,q2⟩:=zc3 kD7
     cases d1:decide (0≤js∧js<(n:Int)) with
     | false=>
      have hcc:=HC.out;rw[show inD k0 js jf=false from by unfold inD;rw[HN.out];have:=of_decide_eq_false d1;exact decide_eq_false (by omega)] at hcc;simp only[Bool.not_false,if_true,Prod.mk.injEq] at hcc;obtain⟨rfl,rfl⟩:=hcc;go_wp2_with fail;refine bodyPost_ret (by simp[results,Tryz.results132,go_sem] <;> rfl) rfl ?_;exact⟨rfl,BV.trans (b7.mono BV.size)⟩
     | true=>
      cases d2:decide (0≤jf∧jf<256) with
      | false=>
       have hcc:=HC.out;rw[show inD k0 js jf=false from by unfold inD;rw[HN.out];have:=of_decide_eq_false d2;exact decide_eq_false (by omega)] at hcc;simp only[Bool.not_false,if_true,Prod.mk.injEq] at hcc;obtain⟨rfl,rfl⟩:=hcc
       go_wp2_with (go_at_call 167;refine (rdFrame_any jf _).mono ?_;rintro e w' ⟨rfl,rfl⟩;rw[d2])
       refine bodyPost_ret (by simp[results,Tryz.results132,go_sem] <;> rfl) rfl ?_;exact⟨rfl,BV.trans (b7.mono BV.size)⟩
      | true=>
       have hcc:=HC.out;rw[show inD k0 js jf=true from by unfold inD;rw[HN.out];have:=of_decide_eq_true d1;have:=of_decide_eq_true d2;exact decide_eq_true (by omega)] at hcc;simp only[Bool.not_true,Bool.false_eq_true,if_false] at hcc;have HC2:=Lib.hid hcc;clear hcc HC
       go_wp2_with (go_at_call 167;refine (rdFrame_any jf _).mono ?_;rintro e w' ⟨rfl,rfl⟩;rw[d2])
       clear d1 d2 j0 j1 j2 j3 j4 j5 j6 j7 j8 j9 j10 q0 q1 q2 i1;obtain⟨wo,rfl⟩:∃ wo,wo=wr:=⟨_,rfl⟩
       go_loopw [6] (fun i wq=>∃ q:Nat,q≤k∧i=.int .i64 q∧Hid (hitD (k0.jobs.take q) js jf=false)∧Below w1.heap.size w1 wq) (fun i _=>k - (intOf i).toNat)
       case atStart=>exact⟨0,by omega,rfl,rfl,Below.refl _ _⟩
       case round=>
        obtain⟨q,hq,rfl,HNO,hbq⟩:=hrel;have b8:=zbt b7 hbq;have kD8:=kD7.below_ hbq zD7;have kJ8:=kJ7.below_ hbq zJ7;have zD8:=kD8.lt;have zJ8:=kJ8.lt;obtain⟨q0,q1,q2⟩:=zc3 kD8;obtain⟨j0,j1,j2,j3,j4,j5,j6,j7,j8,j9,j10⟩:=zc11 kJ8
        by_cases hql:q<k
        ·obtain⟨b2,off2,y,hA2,hbl2,hy,hc2⟩:=(HB.out.ext (BV.trans (b8.mono BV.size))).at_ (k:=q) (by rw[HM.out];omega)
         injection hA2 with hA2
         injection hA2 with h3 h4
         subst h3 h4;obtain⟨yw,ys,yf,yd⟩:=y;have e1:wr.cell? ⟨b,off+q*11+1,none⟩=some (.int .i64 ys):=hc2 1 _ rfl;have e2:wr.cell? ⟨b,off+q*11+2,none⟩=some (.int .i64 yf):=hc2 2 _ rfl;have HS:=Lib.hid (hitD_succ (a:=js) (b:=jf) hy);have i2:(q:Int)<m:=by omega
         have i3:(q:Int)<k:=by omega
         have HHIT:Hid (hitD (k0.jobs.take (q+1)) js jf=true→(z,n0)=((10:Int),k)):=fun h=>by
          have:=HC2.out;rw[hitD_mono (by omega) h,if_pos rfl] at this;exact this.symm
         clear hc2 hy
         by_cases s1:ys=js
         ·have h:=HHIT.out (by rw[HS.out,decide_eq_true (.inl s1),Bool.or_true])
          obtain⟨rfl,rfl⟩:=Prod.mk.inj h;have s1b:(ys == js)=true:=by simpa using s1
          clear s1 h HHIT HC2;go_wp2_with fail
          go_quiet (fail)
          go_wp2_with fail;refine bodyPost_ret (by simp[results,Tryz.results132,go_sem] <;> rfl) rfl ?_;exact⟨rfl,BV.trans (Below.mono (show Below V.heap.size V _ from zbl) BV.size)⟩
         ·have s1b:(ys == js)=false:=by simpa using s1
          by_cases s2:yf=jf
          ·have h:=HHIT.out (by rw[HS.out,decide_eq_true (.inr s2),Bool.or_true])
           obtain⟨rfl,rfl⟩:=Prod.mk.inj h;have s2b:(yf == jf)=true:=by simpa using s2
           clear s1 s2 h HHIT HC2;go_wp2_with fail
           go_quiet (fail)
           go_wp2_with fail;refine bodyPost_ret (by simp[results,Tryz.results132,go_sem] <;> rfl) rfl ?_;exact⟨rfl,BV.trans (Below.mono (show Below V.heap.size V _ from zbl) BV.size)⟩
          ·have s2b:(yf == jf)=false:=by simpa using s2
           have HN2:Hid (hitD (k0.jobs.take (q+1)) js jf=false):=by
            show _=_;rw[HS.out,HNO.out,decide_eq_false (fun h=>h.elim s1 s2)];rfl
           clear s1 s2;go_wp2_with fail
           go_quiet (fail)
           go_wp2_with fail
           go_roundw
           case rel=>exact⟨q+1,by omega,by go_num,HN2.out,zbl⟩
           case measure=>simp[intOf];omega
        ·obtain rfl:q=k:=by omega
         have hcc:=HC2.out;rw[HNO.out] at hcc;simp only[Bool.false_eq_true,if_false] at hcc;have i3:¬ (q:Int)<q:=by omega
         cases jw with
         | true=>
          simp only[Bool.not_true,Bool.false_and,Bool.false_eq_true,if_false] at hcc;have HNX:=Lib.hid hcc;clear hcc;go_wp2_with fail
          go_roundw
          case rel=>exact⟨q+1,by omega,by go_num,HNX.out,b8⟩
          case measure=>simp[intOf];omega
         | false=>
          have hq:∀ W:World,(Op.equalIn 10000 38 (.agg (zkk x0 x1 x2 x3 x4 x5 x6 x7).toArray) (.agg (zkk 0 0 0 0 0 0 0 0).toArray)).run Tryz.prog W=.ok (decide ((⟨x0,x1,x2,x3,x4,x5,x6,x7⟩:Ct)=.zero)) W:=fun W=>eq_ct W ⟨x0,x1,x2,x3,x4,x5,x6,x7⟩ .zero
          cases hz:decide ((⟨x0,x1,x2,x3,x4,x5,x6,x7⟩:Ct)=.zero) with
          | false=>
           rw[hz] at hq hcc;simp only[Bool.not_false,Bool.and_self,if_true,Prod.mk.injEq] at hcc;obtain⟨rfl,rfl⟩:=hcc;clear hz;go_wp2_with fail;refine bodyPost_ret (by simp[results,Tryz.results132,go_sem] <;> rfl) rfl ?_;exact⟨rfl,BV.trans (b8.mono BV.size)⟩
          | true=>
           rw[hz] at hq hcc;simp only[Bool.not_true,Bool.and_false,Bool.false_eq_true,if_false] at hcc;have HNX:=Lib.hid hcc;clear hz hcc;go_wp2_with fail
           go_roundw
           case rel=>exact⟨q+1,by omega,by go_num,HNX.out,b8⟩
           case measure=>simp[intOf];omega
    ·have hd:k0.jobs.drop k=[]:=List.drop_of_length_le (by rw[HM.out];omega)
     have hcc:=HR.out;rw[hd,chkDG] at hcc
     cases hcc
     clear HR HH;go_wp2_with fail;refine bodyPost_ret (by simp[results,Tryz.results132,go_sem] <;> rfl) rfl ?_;exact⟨rfl,b1⟩
theorem rpSized_any(n:Int)(w:World){b:Bool}(h:decide (1≤n∧n≤32)=b):Calls Tryz.prog 136 #[.int .i64 n] w fun e w'=>e=.returned (.bool b)∧w=w':=by
 have HE:Hid (b=(decide (n≥1) && decide (n≤32))):=by show _=_;rw[←h];simp
 clear h
 cases d1:decide (n≥1) with
 | true=>
  go_enter Tryz.func136,Tryz.ntmps136
  go_wp2_with fail;go_ret;exact⟨by rw[HE.out,d1];simp,rfl⟩
 | false=>
  go_enter Tryz.func136,Tryz.ntmps136
  go_wp2_with fail;go_ret;exact⟨by rw[HE.out,d1];simp,rfl⟩
theorem rpCheck_any(A:Option Addr)(c:Nat)(p:Pol)(w:World)(ha:SR intE w A p.free)(la:p.free.length≤1000){z:Int}{n:Nat}(h:chkP p=(z,n)) :
  Calls Tryz.prog 133 #[poV A c p] w fun e w'=>e=.returned (.tuple #[.int .i64 z,.int .i64 n])∧Below w.heap.size w w':=by
 obtain⟨size,l⟩:=p;dsimp only at *;have HA:=Lib.hid ha.sl;clear ha;unfold poV;dsimp only;unfold chkP at h;dsimp only at h
 by_cases h1:size<1∨32<size
 ·rw[if_pos h1] at h
  cases h
  have g1:=fun W=>rpSized_any size W (b:=false) (by simp;omega)
  go_enter Tryz.func133,Tryz.ntmps133
  go_wp2_with (go_at_call 136;refine (g1 _).mono ?_;rintro e w' ⟨rfl,rfl⟩)
  refine bodyPost_ret (by simp[results,Tryz.results133,go_sem] <;> rfl) rfl ?_;exact⟨rfl,zbl⟩
 ·have g1:=fun W=>rpSized_any size W (b:=true) (by simp;omega)
  rw[if_neg h1] at h;have HH:Hid (chkPG size (l.take 0) (l.drop 0)=(z,n)):=by show _=_;simpa using h
  clear h h1
  go_enter Tryz.func133,Tryz.ntmps133
  go_wp2_with (go_at_call 136;refine (g1 _).mono ?_;rintro e w' ⟨rfl,rfl⟩)
  clear g1;obtain⟨V,hV⟩:∃ V,w.alloc (.cells #[.int .i64 size,.slice A l.length c] 33)=V:=⟨_,rfl⟩;have BV:Below w.heap.size w V:=by rw[←hV];exact zbl
  have kV:Blk V w.heap.size 33 #[.int .i64 size,.slice A l.length c]:=by rw[←hV];exact zbk
  rw[hV];clear hV;have hsz:=BV.size;have hlV:=kV.lt
  go_loopw [4] (fun i wr=>∃ k:Nat,k≤l.length∧i=.int .i64 k∧Hid (chkPG size (l.take k) (l.drop k)=(z,n))∧Below V.heap.size V wr) (fun i _=>l.length - (intOf i).toNat)
  case atStart=>exact⟨0,by omega,rfl,HH,Below.refl _ _⟩
  case round=>
   obtain⟨k,hk,rfl,HR,hbw⟩:=hrel;clear HH;have p0:wr.cell? ⟨w.heap.size,0,none⟩=some (.int .i64 size):=by simpa using (kV.below_ hbw hlV).cell_ 0
   have p1:wr.cell? ⟨w.heap.size,1,none⟩=some (.slice A l.length c):=by simpa using (kV.below_ hbw hlV).cell_ 1
   have hlw:w.heap.size<wr.heap.size:=Nat.lt_of_lt_of_le hlV hbw.size
   by_cases hlt:k<l.length
   ·have HS:Hid (Sl wr (.int .i64) A l):=(HA.out.ext BV).ext hbw
    obtain⟨b,off,x,rfl,hbl,hx,q0⟩:=HS.out.at_ hlt;have i1:(k:Int)<l.length:=by omega
    have hc:=HR.out;rw[chkPG_at hx] at hc
    by_cases e1:x<0
    ·rw[if_pos (.inl e1)] at hc
     cases hc
     clear HR;have d1:decide (x<0)=true:=by simpa using e1
     clear e1
     go_wp2
     go_quiet (fail)
     go_wp2
     refine bodyPost_ret (by simp[results,Tryz.results133,go_sem] <;> rfl) rfl ?_;exact⟨rfl,zbl⟩
    ·by_cases e2:size≤x
     ·rw[if_pos (.inr e2)] at hc
      cases hc
      clear HR;have d1:decide (x<0)=false:=by simpa using e1
      have d2:decide (x≥size)=true:=by simpa using e2
      clear e1 e2
      go_wp2
      go_quiet (fail)
      go_wp2
      refine bodyPost_ret (by simp[results,Tryz.results133,go_sem] <;> rfl) rfl ?_;exact⟨rfl,zbl⟩
     ·rw[if_neg (by omega)] at hc
      have HC:=Lib.hid hc;clear hc HR
      rcases Nat.eq_zero_or_pos k with hk0 | hk0
      ·have HD:Hid (chkPG size (l.take (k+1)) (l.drop (k+1))=(z,n)):=by
        show _=_;have:=HC.out;rw[hk0] at this ⊢;simpa using this
       have d1:decide (x<0)=false:=by simpa using e1
       have d2:decide (x≥size)=false:=by simpa using e2
       have d3:decide (0<k)=false:=decide_eq_false (by omega);have i5:¬ (0:Int)<(k:Int):=by omega
       clear hk0 HC e1 e2
       go_wp2
       go_quiet (fail)
       go_wp2
       go_quiet (fail)
       go_wp2
       go_roundw
       case rel=>exact⟨k+1,by omega,by go_num,HD.out,zbl⟩
       case measure=>simp[intOf];omega
      ·obtain⟨m,rfl⟩:∃ m,k=m+1:=⟨k - 1,by omega⟩
       obtain⟨y,hy⟩:∃ y,l[m]? = some y:=⟨_,List.getElem?_eq_getElem (by omega)⟩
       have q1:wr.cell? ⟨b,off+m,none⟩=some (.int .i64 y):=by
        obtain⟨b',off',y',e,_,hy',q⟩:=HS.out.at_ (k:=m) (by omega);injection e with e
        injection e with e3 e4
        subst e3 e4;rw[hy] at hy'
        cases hy'
        exact q
       have hc:=HC.out;rw[take_lastP hy] at hc;simp only[Option.any_some,decide_eq_true_eq] at hc;have i2:(0:Int)<(m:Int)+1:=by omega
       have i3:(m:Int)+1 - 1=m:=by omega
       have i4:(m:Int)<l.length:=by omega
       have d1:decide (x<0)=false:=by simpa using e1
       have d2:decide (x≥size)=false:=by simpa using e2
       have d3:decide ((m:Int)+1>0)=true:=decide_eq_true (by omega);clear e1 e2
       by_cases e3:x≤y
       ·rw[if_pos e3] at hc
        cases hc
        have d4:decide (x≤y)=true:=by simpa using e3
        clear e3
        go_wp2
        go_quiet (fail)
        go_wp2
        go_quiet (fail)
        go_wp2
        refine bodyPost_ret (by simp[results,Tryz.results133,go_sem] <;> rfl) rfl ?_;exact⟨rfl,zbl⟩
       ·rw[if_neg e3] at hc
        have HD:=Lib.hid hc;have d4:decide (x≤y)=false:=by simpa using e3
        clear hc HC e3
        go_wp2
        go_quiet (fail)
        go_wp2
        go_quiet (fail)
        go_wp2
        go_roundw
        case rel=>exact⟨m+1+1,by omega,by go_num,HD.out,zbl⟩
        case measure=>simp[intOf];omega
   ·have hd:l.drop k=[]:=List.drop_of_length_le (by omega)
    have hc:=HR.out;rw[hd,chkPG] at hc
    cases hc
    clear HR
    go_wp2
    refine bodyPost_ret (by simp[results,Tryz.results133,go_sem] <;> rfl) rfl ?_;exact⟨rfl,zbl⟩
theorem rpFree_any(A:Option Addr)(c:Nat)(p:Pol)(d:Int)(w:World)(ha:SR intE w A p.free)(la:p.free.length≤1000) :
  Calls Tryz.prog 144 #[poV A c p,.int .i64 d] w fun e w'=>e=.returned (.bool (decide (d ∈ p.free)))∧Below w.heap.size w w':=by
 obtain⟨size,l⟩:=p;dsimp only at *;have HA:=Lib.hid ha.sl;obtain⟨R,hR⟩:∃ b,decide (d ∈ l)=b:=⟨_,rfl⟩;rw[hR];have HR:=Lib.hid hR;clear ha hR;unfold poV;dsimp only
 go_enter Tryz.func144,Tryz.ntmps144
 go_wp2
 obtain⟨V,hV⟩:∃ V,w.alloc (.cells #[.int .i64 size,.slice A l.length c] 33)=V:=⟨_,rfl⟩;have BV:Below w.heap.size w V:=by rw[←hV];exact zbl
 have kV:Blk V w.heap.size 33 #[.int .i64 size,.slice A l.length c]:=by rw[←hV];exact zbk
 rw[hV];clear hV;have hsz:=BV.size;have hlV:=kV.lt
 go_loopw [5] (fun i wr=>∃ k:Nat,k≤l.length∧i=.int .i64 k∧Hid (∀ x ∈ l.take k,x≠d)∧Below V.heap.size V wr) (fun i _=>l.length - (intOf i).toNat)
 case atStart=>exact⟨0,by omega,rfl,fun x hx=>by simp at hx,Below.refl _ _⟩
 case round=>
  obtain⟨k,hk,rfl,HN,hbw⟩:=hrel;have p1:wr.cell? ⟨w.heap.size,1,none⟩=some (.slice A l.length c):=by simpa using (kV.below_ hbw hlV).cell_ 1
  have hlw:w.heap.size<wr.heap.size:=Nat.lt_of_lt_of_le hlV hbw.size
  by_cases hlt:k<l.length
  ·obtain⟨b,off,x,rfl,hbl,hx,q0⟩:=((HA.out.ext BV).ext hbw).at_ hlt
   have i1:(k:Int)<l.length:=by omega
   have HX:=Lib.hid hx;clear hx
   by_cases e:x=d
   ·have HE:Hid (R=true):=by show _=_;rw[←HR.out,←e];exact decide_eq_true (List.mem_of_getElem? HX.out)
    have eb:(x == d)=true:=by simpa using e
    clear e
    go_wp2
    go_ret;exact⟨ret_bool HE.out.symm,zbl⟩
   ·have eb:(x == d)=false:=by simpa using e
    have HN2:Hid (∀ y ∈ l.take (k+1),y≠d):=by
     show ∀ y ∈ _,_
     rw[List.take_add_one,HX.out];intro y hy
     rcases List.mem_append.1 hy with hy | hy
     ·exact HN.out y hy
     ·simp at hy;rw[hy];exact e
    clear e
    go_wp2
    go_roundw
    case rel=>exact⟨k+1,by omega,by go_num,HN2.out,zbl⟩
    case measure=>simp[intOf];omega
  ·have HE:Hid (R=false):=by
    show _=_;rw[←HR.out]
    refine decide_eq_false fun h => ?_
    have:=HN.out;rw[List.take_of_length_le (by omega)] at this;exact this d h rfl
   go_wp2
   go_ret;exact⟨ret_bool HE.out.symm,zbl⟩
theorem tknP_nat(l:List Int)(n:Nat):tknP ⟨(n:Int),l⟩=tkF l n:=by rw[tknP_eq];simp[tkF]
theorem rpTaken_any(A:Option Addr)(c:Nat)(p:Pol)(w:World)(hok:OkP p)(ha:SR intE w A p.free) :
  Calls Tryz.prog 134 #[poV A c p] w (TkPost (tknP p) w):=by
 have hzz:=chkP_zero hok;have hlen:=hok.len;obtain⟨size,l⟩:=p;obtain⟨ok1,ok2,ok3⟩:=hok;dsimp only at *;unfold poV;dsimp only;obtain⟨n,rfl⟩:∃ n:Nat,size=n:=⟨size.toNat,by omega⟩;have HT:Hid (tknP ⟨(n:Int),l⟩=tkF l n):=tknP_nat l n;have HA:=Lib.hid ha;have HZ:=Lib.hid hzz;have n2:n≤32:=by omega
 clear ha hzz ok2 ok3;obtain⟨X,hX⟩:∃ X,w.alloc (.cells #[.int .i64 n,.slice A l.length c] 33)=X:=⟨_,rfl⟩;have BX:Below w.heap.size w X:=by rw[←hX];exact zbl
 have kX:Blk X w.heap.size 33 #[.int .i64 n,.slice A l.length c]:=by rw[←hX];exact zbk
 obtain⟨q0,q1⟩:=zc2 kX;have zX:=kX.lt
 go_enter Tryz.func134,Tryz.ntmps134
 go_wp2_with fail;(try rw[hX]);clear hX;refine (rpCheck_any A c ⟨(n:Int),l⟩ X (HA.out.ext BX) (by dsimp only;omega) HZ.out).mono ?_;rintro e1 w1 ⟨rfl,hb1⟩;have kP:Blk w1 w.heap.size 33 #[.int .i64 n,.slice A l.length c]:=kX.below_ hb1 zX;have B1:=zbt BX hb1;have zP:=kP.lt;clear q0 q1 hb1;go_wp2_with fail
 go_loopw [6,7] (fun v f w5=>∃ (k:Nat) (A':Option Addr) (c' L:Nat) (zs:List Int),k≤n∧f=.int .i64 k∧v=.slice A' L c'∧Hid (zs=tkF l k)∧Hid (L=zs.length)∧Hid (CanR intE w5 w1.heap.size A' c' zs)∧Below w1.heap.size w1 w5) (fun _ f _=>n - (intOf f).toNat)
 case atStart=>exact⟨0,none,0,0,[],by omega,rfl,rfl,rfl,rfl,.inl ⟨rfl,SR.nil⟩,Below.refl _ _⟩
 case round=>
  obtain⟨k,A',c',L,zs,hk,rfl,rfl,HZS,HLL,HCAN,hb5⟩:=hrel;have kQ5:=kP.below_ hb5 zP;have zQ5:=kQ5.lt;have b5w:=zbt B1 hb5;have hsz:=hb5.size;obtain⟨q0,q1⟩:=zc2 kQ5
  by_cases hlt:k<n
  ·have i1:(k:Int)<n:=by omega
   have hf:=rpFree_any A c ⟨(n:Int),l⟩ k wr (HA.out.ext b5w) (by dsimp only;omega);obtain⟨fr,hfr⟩:∃ b,decide ((k:Int) ∈ l)=b:=⟨_,rfl⟩
   have HS:Hid (tkF l (k+1)=zs++(if fr=true then [] else [(k:Int)])):=by
    show _=_;rw[HZS.out,←hfr];unfold tkF;rw[rngI_succ,List.filter_append]
    by_cases e:(k:Int) ∈ l <;> simp[e]
   dsimp only at hf;rw[hfr] at hf;have HF:=Lib.hid hf;clear hf hfr;have HZL:Hid (zs.length≤1000):=by show _≤_;have:=tkF_len l k;rw[←HZS.out] at this;omega
   go_wp2_with fail;refine HF.out.mono ?_;rintro e6 w6 ⟨rfl,hb6⟩;have hsz6:=hb6.size
   cases fr with
   | true=>
    go_wp2_with fail
    go_roundw
    case rel=>exact⟨k+1,A',c',L,zs,by omega,by go_num,rfl,by show _=_;rw[HS.out];simp,HLL.out,HCAN.out.ext hb6,hb5.trans (hb6.mono (by omega))⟩
    case measure=>simp[intOf];omega
   | false=>
    have H1:Hid ((zs++[(k:Int)]).length=L+1):=by show _=_;simp[HLL.out]
    go_wp2_with (at_builtin;refine wpList_appR intE rfl (.tmp 26) (.tmp 28) _ rfl rfl _ w1.heap.size (by simp;omega) A' c' L zs HLL.out ((HCAN.out.ext hb6).ext ?_) (some ⟨w6.heap.size,0,none⟩) 1 1 [(k:Int)] rfl (SR.of_blk (E:=intE) (l:=[(k:Int)]) (t:=3) (Blk.new_ (by simp) rfl)) (by have:=HZL.out;simp;omega) rfl rfl ?_;(exact(Below.refl _ w6).alloc (Nat.le_refl _) _);rw[H1.out];intro A5 c5 w7 hO7 hb7 hm7)
    have H7:CanR intE w7 w1.heap.size A5 c5 (zs++[(k:Int)]):=hO7;have hb67:Below w1.heap.size w1 w7:=(hb5.trans (hb6.mono (by omega))).trans (Below.trans ((Below.refl _ w6).alloc (by omega) _) hb7)
    go_roundw
    case rel=>exact⟨k+1,A5,c5,L+1,zs++[(k:Int)],by omega,by go_num,rfl,by show _=_;rw[HS.out];simp,H1.out.symm,H7,hb67⟩
    case measure=>simp[intOf];omega
  ·obtain rfl:k=n:=by omega
   have HE:Hid (tkF l k=zs):=by show _=_;rw[HZS.out]
   go_wp2_with fail;refine bodyPost_ret (by simp[results,Tryz.results134,go_sem] <;> rfl) rfl ?_;unfold TkPost;rw[HT.out,HE.out];exact⟨A',c',by rw[HLL.out],CanR.base_ HCAN.out (by have:=B1.size;omega),b5w⟩
theorem blk_setN_{w:World}{b c o:Nat}{T:TypeId}{cs:Array Value}(k:Blk w b T cs)(hc:b≠c)(l:List Value):Blk (setN w c o l) b T cs:=k.kept (grown_setN w c o l) (by simpa using hc)
theorem rpAsked_any(A:Option Addr)(c:Nat)(p:Pol)(d:Int)(w:World)(ha:SR intE w A p.free)(hok:OkP p)(h0:0≤d)(h1:d<p.size) :
  Calls Tryz.prog 143 #[poV A c p,.int .i64 d] w fun e w'=>e=.returned (.int .i64 0)∧Below w.heap.size w w':=by
 have HC:=Lib.hid (fun W h=>rpCheck_any A c p W h (by have:=hok.len;omega) (chkP_zero hok));obtain⟨size,l⟩:=p;have HA:=Lib.hid ha;have d1:decide (d<0)=false:=decide_eq_false (by omega);have d2:decide (d≥size)=false:=decide_eq_false (by dsimp only at h1;omega);clear ha hok h0 h1;unfold poV at HC ⊢;dsimp only at HC ⊢;obtain⟨X,hX⟩:∃ X,w.alloc (.cells #[.int .i64 size,.slice A l.length c] 33)=X:=⟨_,rfl⟩;have kX:Blk X w.heap.size 33 #[.int .i64 size,.slice A l.length c]:=by rw[←hX];exact zbk
 have BX:Below w.heap.size w X:=by rw[←hX];exact zbl
 have zX:=kX.lt;obtain⟨q0,q1⟩:=zc2 kX
 go_enter Tryz.func143,Tryz.ntmps143
 go_wp2_with fail;(try rw[hX]);clear hX;refine (HC.out X (HA.out.ext BX)).mono ?_;rintro e1 w1 ⟨rfl,hb1⟩;have kX1:=kX.below_ hb1 zX;have zX1:=kX1.lt;clear q0 q1;obtain⟨q0,-⟩:=zc2 kX1;go_wp2_with fail;go_ret;exact⟨rfl,BX.trans (hb1.mono BX.size)⟩
theorem rpGive_any(A0:Option Addr)(c0:Nat)(p:Pol)(d:Int)(w:World)(ha:SR intE w A0 p.free)(hok:OkP p)(h0:0≤d)(h1:d<p.size)(hn:d ∉ p.free) :
  Calls Tryz.prog 81 #[poV A0 c0 p,.int .i64 d] w (PoPost (gvP p d) w):=by
 have HC:=Lib.hid (fun W h=>rpAsked_any A0 c0 p d W h hok h0 h1);have hlen:=hok.len;have hsz:=hok.size;have HF:=Lib.hid (fun x W h=>rpFree_any A0 c0 p x W h (by omega))
 have hG:gvP p d=(⟨p.size,gvF p.free d p.size.toNat⟩,0):=by
  unfold gvP;rw[chkP_zero hok,if_neg (by simp),if_neg (by omega),if_neg hn];rfl
 rw[hG];obtain⟨size,l⟩:=p;obtain⟨m,rfl⟩:∃ m:Nat,size=m:=⟨size.toNat,by dsimp only at hsz;omega⟩;have HA:=Lib.hid ha;have HN:=Lib.hid hn;have hm:m≤32:=by dsimp only at hsz;omega
 clear ha hok h0 h1 hn hG hlen hsz;unfold poV at HC HF ⊢;dsimp only at HC HF HA HN ⊢;rw[Int.toNat_natCast];obtain⟨X,hX⟩:∃ X,(w.alloc (.cells #[.int .i64 m,.slice A0 l.length c0] 33)).alloc (.cells #[.int .i64 0,.slice none 0 0] 33)=X:=⟨_,rfl⟩;have kX:=za1 hX;have kR:=za2 hX;have BX:Below w.heap.size w X:=by rw[←hX];exact zbl
 have zX:=kX.lt;obtain⟨q0,q1⟩:=zc2 kX
 go_enter Tryz.func81,Tryz.ntmps81
 go_wp2_with fail;(try rw[hX]);clear hX;refine (HC.out X (HA.out.ext BX)).mono ?_;rintro e1 w1 ⟨rfl,hb1⟩;have B1:=BX.trans (hb1.mono BX.size);have kX1:=kX.below_ hb1 zX;have kR1:=kR.below_ hb1 kR.lt;have zX1:=kX1.lt;clear q0 q1 hb1;obtain⟨q0,q1⟩:=zc2 kX1;have hF0:=HF.out d w1 (HA.out.ext B1);rw[decide_eq_false HN.out] at hF0;have HF0:=Lib.hid hF0;clear hF0;go_wp2_with fail;refine HF0.out.mono ?_;rintro e2 w2 ⟨rfl,hb2⟩;have B2:=B1.trans (hb2.mono B1.size);have kX2:=kX1.below_ hb2 zX1;have kR2:=kR1.below_ hb2 kR1.lt;have zX2:=kX2.lt;have zR2:=kR2.lt;clear q0 q1 hb2 HF0;obtain⟨q0,q1⟩:=zc2 kX2;go_wp2_with fail;obtain⟨V,hV⟩:∃ V,w2.alloc (.cells #[.int .i64 m,.slice none 0 0] 33)=V:=⟨_,rfl⟩;have kV:=za hV;have kXV:Blk V w.heap.size 33 #[.int .i64 m,.slice A0 l.length c0]:=by rw[←hV];exact kX2.alloc_ _
 have kRV:Blk V (w.heap.size+1) 33 #[.int .i64 0,.slice none 0 0]:=by rw[←hV];exact kR2.alloc_ _
 have BV:Below w.heap.size w V:=by rw[←hV];exact B2.alloc B2.size _
 have zV:V.heap.size=w2.heap.size+1:=by rw[←hV];simp
 rw[hV];clear hV q0 q1
 go_loopw [8] (fun i wr=>∃ (k L:Nat) (A:Option Addr) (c:Nat) (zs:List Int),k≤m∧i=.int .i64 k∧Hid (zs=gvF l d k)∧Hid (L=zs.length)∧Hid (OwnR intE wr V.heap.size (.slice A zs.length c) zs)∧Blk wr w.heap.size 33 #[.int .i64 m,.slice A0 l.length c0]∧Blk wr (w.heap.size+1) 33 #[.int .i64 0,.slice none 0 0]∧Blk wr w2.heap.size 33 #[.int .i64 m,.slice A L c]∧Below w.heap.size w wr∧V.heap.size≤wr.heap.size) (fun i _=>m - (intOf i).toNat)
 case atStart=>exact⟨0,0,none,0,[],by omega,rfl,rfl,rfl,OwnR.nil,kXV,kRV,kV,BV,Nat.le_refl _⟩
 case round=>
  obtain⟨k,L,A,c,zs,hk,rfl,HZ,HL,HO,kX3,kR3,kB3,hb,hz⟩:=hrel;have zX3:=kX3.lt;have zR3:=kR3.lt;have zB3:=kB3.lt;have q0:=zc kX3 0;have q1:=zc kX3 1
  by_cases hlt:k<m
  ·have i1:(k:Int)<m:=by omega
   obtain⟨g,hg⟩:∃ g,decide ((k:Int)=d∨(k:Int) ∈ l)=g:=⟨_,rfl⟩
   have HS:Hid (gvF l d (k+1)=if g=true then zs++[(k:Int)] else zs):=by
    show _=_;rw[HZ.out,←hg]
    by_cases e:(k:Int)=d∨(k:Int) ∈ l
    ·rw[gvF_yes e,if_pos (decide_eq_true e)]
    ·rw[gvF_no e,if_neg (by simpa using e)]
   have HZL:Hid (zs.length≤1000):=by show _≤_;have:=gvF_len l d k;rw[←HZ.out] at this;omega
   have HG:=Lib.hid hg;clear hg;go_upto_region 10 with fail
   go_cut [36] from 29 to 35 (fun v wx=>v=.bool g∧Below wr.heap.size wr wx)
   case first=>
    by_cases e:(k:Int)=d
    ·have hg:true=g:=by rw[←HG.out];exact(decide_eq_true (.inl e)).symm
     subst hg;have eb:((k:Int) == d)=true:=by simpa using e
     clear e;go_wp2_with fail
     go_meet
     exact⟨rfl,Below.refl _ _⟩
    ·have eb:((k:Int) == d)=false:=by simpa using e
     have hf:=HF.out k wr (HA.out.ext hb);have hg:decide ((k:Int) ∈ l)=g:=by rw[←HG.out];simp[e]
     rw[hg] at hf;have HF1:=Lib.hid hf;clear e hf hg;go_wp2_with fail;refine HF1.out.mono ?_;rintro e6 w6 ⟨rfl,hb6⟩
     cases g with
     | true=>
      go_wp2_with fail
      go_meet
      exact⟨rfl,hb6⟩
     | false=>
      go_wp2_with fail
      go_meet
      exact⟨rfl,hb6⟩
   case rest=>
    obtain⟨rfl,hb6⟩:=hcut;have z6:=hb6.size;have kX4:=kX3.below_ hb6 zX3;have kR4:=kR3.below_ hb6 zR3;have kB4:=kB3.below_ hb6 zB3;have hO4:=HO.out.ext hb6;have HO4:=Lib.hid hO4;have zX4:=kX4.lt;have zR4:=kR4.lt;have zB4:=kB4.lt;have hb4:=zbt hb hb6;clear q0 q1 hO4
    cases g with
    | false=>
     go_wp2_with fail
     go_roundw
     case rel=>exact⟨k+1,L,A,c,zs,by omega,by go_num,by show _=_;rw[HS.out];rfl,HL.out,HO4.out,kX4,kR4,kB4,hb4,by omega⟩
     case measure=>simp[intOf];omega
    | true=>
     have H1:Hid ((zs++[(k:Int)]).length=L+1):=by show _=_;simp[HL.out]
     have y1:=zc kB4 1
     go_wp2_with (at_builtin;refine wpList_ownR intE rfl (.tmp 38) (.tmp 40) _ rfl rfl _ V.heap.size (by simp;omega) A c L zs HL.out (HO4.out.ext zbl) (some ⟨wc.heap.size,0,none⟩) 1 1 [(k:Int)] rfl (SR.of_blk (E:=intE) (l:=[(k:Int)]) (t:=3) (Blk.new_ (by simp) rfl)) (by simp) (by have:=HZL.out;simp;omega) rfl rfl ?_;rw[H1.out];intro A5 c5 w5 hO5 hb5 hg5;have hb5w:Below V.heap.size wc w5:=(Below.trans ((Below.refl _ wc).alloc (by omega) _) hb5);have kB5:=kB4.below_ hb5w (by omega);have kR5:=kR4.below_ hb5w (by omega);have kX5:=kX4.below_ hb5w (by omega);have f5:=kB5.frozen_ 1;have c5':w5.cell? ⟨w2.heap.size,1,none⟩=some (.slice A L c):=by simpa using kB5.cell_ 1)
     have b5:Below w.heap.size w w5:=hb4.trans (hb5w.mono (by omega));have hO6:OwnR intE w5 V.heap.size (.slice A5 (zs++[(k:Int)]).length c5) (zs++[(k:Int)]):=by rw[H1.out];exact hO5
     refine⟨⟨k+1,L+1,A5,c5,zs++[(k:Int)],by omega,by go_num,by show _=_;rw[HS.out];rfl,H1.out.symm,hO6.far (p:=⟨w2.heap.size,1,none⟩) _ (by show w2.heap.size<_;omega),kX5.far_ (by show w.heap.size≠w2.heap.size;omega) _,kR5.far_ (by show w.heap.size+1≠w2.heap.size;omega) _,by simpa using kB5.set_ 1 (.slice A5 (L+1) c5),b5.setCell (p:=⟨w2.heap.size,1,none⟩) (by show w.heap.size≤w2.heap.size;omega) _,?_⟩,by simp[intOf];omega⟩;have:=hb5w.size;simp[World.setCell];omega
  ·obtain rfl:k=m:=by omega
   have y0:=zc kB3 0;have y1:=zc kB3 1;have t0:=zc kR3 0;have t1:=zc kR3 1;obtain⟨tf0,tf1,-⟩:=zf kR3;have hLz:=HL.out;subst hLz;have hO3:=OwnE.of_own HO.out rfl;go_wp2_with fail;obtain⟨W,hW⟩:∃ W,setN wr (w.heap.size+1) 0 [.int .i64 k,.slice A zs.length c]=W:=⟨_,rfl⟩;have hWn:World.setCell (World.setCell wr ⟨w.heap.size+1,0,none⟩ (.int .i64 k)) ⟨w.heap.size+1,1,none⟩ (.slice A zs.length c)=W:=hW;have kW:=zsw hW kR3;have bW:=zbw hW hb (by omega);have oW:OwnE intE W V.heap.size A c zs:=by rw[←hW];exact hO3.farN (by omega) _
   rw[hWn];clear hWn hW t0 t1 tf0 tf1 y0 y1;refine bodyPost_ret (by simp[results,Tryz.results81,go_sem,zc2 kW] <;> rfl) rfl ?_;refine⟨A,c,?_,?_,bW⟩
   ·simp[poV,HZ.out]
   ·have:=oW.base_ (base':=w.heap.size) (by omega)
    rw[HZ.out] at this;exact this
end Go.Proofs.YthijbipidbjpfaaGreatDoor
