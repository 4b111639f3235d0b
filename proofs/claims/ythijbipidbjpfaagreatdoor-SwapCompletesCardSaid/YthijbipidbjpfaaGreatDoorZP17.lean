import Derived.Test.YthijbipidbjpfaaGreatDoorZP16
import Derived.Laws.IdiomRangeMap
import Derived.Test.YthijbipidbjpfaaGreatDoorZP00
import Derived.Test.YthijbipidbjpfaaGreatDoorZP03
import Derived.Test.YthijbipidbjpfaaGreatDoorZP06
import Derived.Test.YthijbipidbjpfaaGreatDoorZP02
set_option linter.unusedSimpArgs false
set_option linter.unusedVariables false
set_option maxRecDepth 100000
set_option maxHeartbeats 8000000
namespace Go.Proofs.YthijbipidbjpfaaGreatDoor
open Go.RowKit Go.Maps
theorem wt_kinv:∀ key l,keyOf Tryz.prog wtT.K key=some l→∃ k,key=wtT.kv k:=fun key l h=>by
 have h2:mapKey Tryz.prog 3 key=some l:=by rw[←keyOf_int Tryz.underlying3];exact h
 unfold mapKey at h2;rw[Tryz.underlying3] at h2
 split at h2
 ·rename_i h3;cases h3
 ·rename_i q q' n h3
  injection h3 with h3
  injection h3 with h3
  subst h3
  split at h2
  ·rename_i h4
   exact⟨n,by rw[h4.1];rfl⟩
  ·cases h2
 ·rename_i h3;cases h3
 ·cases h2
theorem all_step{m:Int→Option (Bool × Int)}{left:Int→Bool}{f:Int→Int}{ok:Bool}(h:ok=true ↔ ∀ p v,m p=some v→left p=false→0<f v.2){p0:Int}{v0:Bool × Int}(hk:m p0=some v0) :
  (ok && decide (0<f v0.2))=true ↔ ∀ p v,m p=some v→(left p && !decide (p=p0))=false→0<f v.2:=by
 rw[Bool.and_eq_true,h,decide_eq_true_eq]
 constructor
 ·rintro ⟨h1,h2⟩ p v hp hl
  by_cases e:p=p0
  ·subst e
   rw[hk] at hp;injection hp with hp
   subst hp;exact h2
  ·exact h1 p v hp (by simpa [e] using hl)
 ·intro h
  exact⟨fun p v hp hl=>h p v hp (by simp[hl]),h p0 v0 hk (by simp)⟩
theorem ag_end{s:Swp}{ok:Bool}{left:Int→Bool}(h1:s.sl.refs.length=s.dk.cells.length∧s.dk.room=s.po.size∧(s.wr.length:Int)≤s.cap)(h2:mtW s.dk.jobs true s.wr=true)(h3:mtW s.dk.jobs false s.rd=true)(h4:s.sl.busy=(List.range s.sl.busy.length).map (bsW s.dk.jobs))(h5:s.desc.length=s.dk.jobs.length)
  (h6:srt s.desc=tknP s.po) (h7:wtok s=true) (h8:ok=true ↔ ∀ p v,lkV (wtV s) p=some v→left p=false→0<refT s.sl v.2.toNat) (h9:∀ k v,lkV (wtV s) k=some v→left k=false) (hs:∀ {d t:List Int},t.Pairwise (· < ·)→(srt d=t↔t.length=d.length∧∀ x ∈ t,x ∈ d)):ok=agW s:=by
 have h6:=(hs (tknP_asc _)).1 h6;have hw:=h7;unfold wtok at hw;rw[Bool.and_eq_true,decide_eq_true_eq,List.all_eq_true] at hw
 have key:ok=true↔agW s=true:=by
  rw[h8,agW_ok]
  constructor
  ·intro h
   refine⟨h1,mtW_iff.1 h2,mtW_iff.1 h3,h4,h5,h6.1,h6.2,⟨hw.1,fun x hx=>by simpa using hw.2 x hx⟩,fun x hx => ?_⟩;rw[wtV_wtW] at hx;obtain⟨y,hy,rfl⟩:=List.mem_map.1 hx;have hl:=(wtV_lk s h7 (p:=y.1) (v:=y.2)).2 hy;exact h _ _ hl (h9 _ _ hl)
  ·intro h p v hp _
   have hm:=(wtV_lk s h7).1 hp;have:=h.2.2.2.2.2.2.2.2 (p,v.2) (by rw[wtV_wtW];exact List.mem_map.2 ⟨_,hm,rfl⟩);exact this
 cases ok with
 | false=>exact(Bool.eq_false_iff.2 fun e=>by have:=key.2 e;cases this).symm
 | true=>exact(key.1 rfl).symm
theorem wt_range{s:Swp}(hd:OkD s.dk)(hl:s.sl.refs.length=s.dk.cells.length)(h1:jvs s.dk.jobs true=vvs s.wr)(h2:jvs s.dk.jobs false=vvs s.rd){p:Int}{v:Bool × Int}(h:(p,v) ∈ wtV s):0≤v.2∧v.2<s.sl.refs.length:=by
 have key:∀ (b:Bool) (vs:List Wr),jvs s.dk.jobs b=vvs vs→∀ x ∈ vs,0≤x.1∧x.1<s.sl.refs.length:=fun b vs hm x hx=>by
  have hv:(x.1,x.2.1) ∈ jvs s.dk.jobs b:=by rw[hm];exact vvs_mem.2 ⟨x,hx,rfl,rfl⟩
  obtain⟨j,hj,_,hs,_⟩:=jvs_mem.1 hv;have:=hd.inr j hj;dsimp only at hs;omega
 rcases List.mem_append.1 h with h | h
 ·obtain⟨x,hx,_,e⟩:=wtv_mem.1 h
  injection e with _ e;subst e
  exact key _ _ h1 x hx
 ·obtain⟨x,hx,_,e⟩:=wtv_mem.1 h
  injection e with _ e;subst e
  exact key _ _ h2 x hx
theorem wpList_nextWt{ops:Array Oper}{rest:List Oper}{o:Oper}{a:Act}{Z:Exit→Act→World→Prop}(w:World)(hg:o.guard=none)(it:Operand)(hop:o.op=Op.next it false)
  (B r n:Nat) (m:Int→Option (Bool × Int)) (left:Int→Bool) (cnt:Nat) (hit:a.eval it=.pointer (some ⟨r,0,none⟩)) (h:RngT wtT w B r n m left cnt)
  (hDone:(∀ k v,m k=some v→left k=false)→wpList Tryz.prog ops Z rest (a.put o.dst (.tuple #[.bool false])) w)
  (hMore:∀ (k:Int) (v0:Bool) (v1:Int) (w':World) (cnt':Nat),m k=some (v0,v1)→left k=true→RngT wtT w' B r n m (fun j=>left j && !decide (j=k)) cnt'→cnt'<cnt→w.grownBy w' (some r)→w'.heap.size=w.heap.size →
   (Instr.entry (.pointer (some ⟨r,0,none⟩))).run Tryz.prog w'=.ok (.tuple #[.int .i64 k,.agg #[.bool v0,.int .i64 v1]]) w'→wpList Tryz.prog ops Z rest (a.put o.dst (.tuple #[.bool true,.int .i64 k,.agg #[.bool v0,.int .i64 v1]])) w'):wpList Tryz.prog ops Z (o::rest) a w:=
 wpList_nextT wtT w hg it hop B r n m left cnt wt_kinv hit h hDone fun k v w' cnt' h1 h2 h3 h4 h5 h6 h7=>hMore k v.1 v.2 w' cnt' h1 h2 h3 h4 h5 h6 h7
theorem srt_len(l:List Int):(srt l).length=l.length:=by simp[srt]
theorem desc_sorted{d t:List Int}(ht:t.Pairwise (· < ·)):srt d=t↔t.length=d.length∧∀ x ∈ t,x ∈ d:=by
 have hp:(srt d).Perm d:=List.mergeSort_perm d _
 constructor
 ·rintro rfl
  exact⟨hp.length_eq,fun x hx=>hp.mem_iff.1 hx⟩
 ·rintro ⟨h1,h2⟩
  obtain⟨h3,h4⟩:=sub_all (asc_nodup ht) h2 h1
  have hpt:t.Perm d:=(List.perm_ext_iff_of_nodup (asc_nodup ht) h3).2 fun x=>⟨h2 x,h4 x⟩
  have hs:(srt d).Pairwise (· ≤ ·):=by
   have:=List.pairwise_mergeSort (le:=fun x y:Int=>decide (x≤y)) (fun a b c h1 h2=>by simp at *;omega) (fun a b=>by simp;omega) d
   exact this.imp fun h=>by simpa using h
  exact List.Perm.eq_of_pairwise (fun a b _ _ h1 h2=>Int.le_antisymm h1 h2) hs (ht.imp fun h=>Int.le_of_lt h) (hp.trans hpt.symm)
theorem agrees_any(L:Lay)(s:Swp)(w:World)(h:SwR w L s)(hf:Few s)(hwf:∀ v ∈ s.rd,(Lit.int .i64 v.2.2).wf=true)(h1:OkT s.sl)(h2:Valid s.wr)(h3:OkD s.dk)(h4:OkP s.po)(hz:TZ w) :
  Calls Tryz.prog 63 #[swV L s] w fun e w'=>e=.returned (.bool (agW s))∧Below w.heap.size w w':=by
 obtain⟨a0,c0,a1,c1,a2,c2,a3,c3,a4,c4,a5,c5,a6,c6,a7,c7⟩:=L;have HS:=Lib.hid h;have HZ:=Lib.hid hz;have H1:=Lib.hid h1;have H2:=Lib.hid h2;have H3:=Lib.hid h3;have H4:=Lib.hid h4;have HWF:=Lib.hid hwf;have HW0:0<w.heap.size:=hz.pos;obtain⟨f0,f1,f2,f3,f4,f5,f6,f7⟩:=hf;clear h hz h1 h2 h3 h4 hwf;unfold swV swC;obtain⟨X,hX⟩:∃ X,w.alloc (.cells (zkx s a0 c0 a1 c1 a2 c2 a3 c3 a4 c4 a5 c5 a6 c6 a7 c7).toArray 35)=X:=⟨_,rfl⟩;have kX:Blk X w.heap.size 35 (zkx s a0 c0 a1 c1 a2 c2 a3 c3 a4 c4 a5 c5 a6 c6 a7 c7).toArray:=by rw[←hX];exact zbk
 have BX:Below w.heap.size w X:=by rw[←hX];exact zbl
 obtain⟨g1,hg1⟩:∃ b,((s.sl.refs.length:Int) != (s.dk.cells.length:Int))=b:=⟨_,rfl⟩;obtain⟨g2,hg2⟩:∃ b,(s.dk.room != s.po.size)=b:=⟨_,rfl⟩;obtain⟨g3,hg3⟩:∃ b,decide ((s.wr.length:Int)>s.cap)=b:=⟨_,rfl⟩;have HG1:=Lib.hid hg1;have HG2:=Lib.hid hg2;have HG3:=Lib.hid hg3;have zkX:=kX.lt;obtain⟨q0,q1,q2,q3,-,-,q6,q7,q8,q9,-⟩:=zc11 kX
 cases g1 with
 | true=>
  have HE:Hid (agW s=false):=by
   show _=_
   refine Bool.eq_false_iff.2 fun e => ?_
   have hag:=agW_ok.1 e;have h:=HG1.out;rw[hag.1.1] at h;simp at h
  clear hg2 hg3
  go_enter Tryz.func63,Tryz.ntmps63
  go_wp2_with fail;(try rw[hX]);go_wp2_with fail;go_ret;exact⟨by rw[HE.out];rfl,BX⟩
 | false=>
  cases g2 with
  | true=>
   have HE:Hid (agW s=false):=by
    show _=_
    refine Bool.eq_false_iff.2 fun e => ?_
    have hag:=agW_ok.1 e;have h:=HG2.out;rw[hag.1.2.1] at h;simp at h
   clear hg3
   go_enter Tryz.func63,Tryz.ntmps63
   go_wp2_with fail;(try rw[hX]);go_wp2_with fail;go_ret;exact⟨by rw[HE.out];rfl,BX⟩
  | false=>
   cases g3 with
   | true=>
    have HE:Hid (agW s=false):=by
     show _=_
     refine Bool.eq_false_iff.2 fun e => ?_
     have hag:=agW_ok.1 e;have h:=HG3.out;have:=hag.1.2.2;simp at h;omega
    go_enter Tryz.func63,Tryz.ntmps63
    go_wp2_with fail;(try rw[hX]);go_wp2_with fail;go_ret;exact⟨by rw[HE.out];rfl,BX⟩
   | false=>
    go_enter Tryz.func63,Tryz.ntmps63
    go_wp2_with fail;(try rw[hX]);clear hX q0 q1 q2 q8 q9;refine (matchW_any a6 a2 c6 c2 s.dk.jobs true s.wr X (HS.out.r6.ext BX) (HS.out.r2.ext BX) (by omega) (by omega)).mono ?_;rintro e1 w1 ⟨rfl,hb1⟩;have B1:=zbt BX hb1;replace kX:=kX.below_ hb1 kX.lt;clear q3 q7 zkX hb1;obtain⟨m1,hm1⟩:∃ b,mtW s.dk.jobs true s.wr=b:=⟨_,rfl⟩;rw[hm1];have HM1:=Lib.hid hm1;clear hm1
    cases m1 with
    | false=>
     have HE:Hid (agW s=false):=by
      show _=_
      refine Bool.eq_false_iff.2 fun e => ?_
      have hag:=agW_ok.1 e;have h:=mtW_iff.2 hag.2.1;rw[HM1.out] at h
      cases h
     go_wp2_with fail;go_ret;exact⟨by rw[HE.out];rfl,B1⟩
    | true=>
     have zkX:=kX.lt;obtain⟨-,-,-,-,q4,-,-,q7,-⟩:=zc11 kX;go_wp2_with fail;refine (matchR_any a6 a3 c6 c3 s.dk.jobs false s.rd w1 (HS.out.r6.ext B1) (HS.out.r3.ext B1) (by omega) (by omega)).mono ?_;rintro e2 w2 ⟨rfl,hb2⟩;have B2:=zbt B1 hb2;replace kX:=kX.below_ hb2 kX.lt;clear q4 q7 zkX hb2 B1;obtain⟨m2,hm2⟩:∃ b,mtW s.dk.jobs false s.rd=b:=⟨_,rfl⟩;rw[hm2];have HM2:=Lib.hid hm2;clear hm2
     cases m2 with
     | false=>
      have HE:Hid (agW s=false):=by
       show _=_
       refine Bool.eq_false_iff.2 fun e => ?_
       have hag:=agW_ok.1 e;have h:=mtW_iff.2 hag.2.2.1;rw[HM2.out] at h
       cases h
      go_wp2_with fail;go_ret;exact⟨by rw[HE.out];rfl,B2⟩
     | true=>
      have zkX:=kX.lt;obtain⟨-,-,-,-,-,-,-,q7,-⟩:=zc11 kX;go_wp2_with fail;obtain⟨V,hV⟩:∃ V,w2.alloc (.cells Tryz.zeroCells163 163)=V:=⟨_,rfl⟩
      have kV:Blk V w2.heap.size 163 (frB (bsW (s.dk.jobs.take 0))):=by
       rw[←hV];show Blk _ _ _ (frB (bsW []));rw[←bs_zero,←zc256];exact Blk.new_ rfl rfl
      have BV:=zab hV;rw[hV];clear hV q7
      go_loopw [56] (fun i wr=>∃ k,k≤s.dk.jobs.length∧i=.int .i64 k∧Hid (Blk wr w2.heap.size 163 (frB (bsW (s.dk.jobs.take k))))∧Below w2.heap.size w2 wr) (fun i _=>s.dk.jobs.length - (intOf i).toNat)
      case atStart=>exact⟨0,by omega,rfl,kV,BV⟩
      case round=>
       clear kV BV;obtain⟨k,hk,rfl,HB,hb⟩:=hrel
       by_cases hlt:k<s.dk.jobs.length
       ·have i1:(k:Int)<s.dk.jobs.length:=by omega
        obtain⟨b,off,x,rfl,hbl,hx,hc⟩:=(HS.out.r6.ext (B2.trans (hb.mono B2.size))).at_ hlt;have hinr:=H3.out.inr x (List.mem_of_getElem? hx);have hcl:=H3.out.cells;obtain⟨jw,js,jf,⟨c0_,c1_,c2_,c3_,c4_,c5_,c6_,c7_⟩⟩:=x;dsimp only at hinr;obtain⟨q,rfl⟩:∃ q:Nat,js=q:=⟨js.toNat,by omega⟩;have hq:q<256:=by omega
        have HQ:=Lib.hid (bs_succ hx rfl);clear hx hinr hcl;have e0:wr.cell? ⟨b,off+k*11,none⟩=some (.bool jw):=hc 0 _ rfl;have e1:wr.cell? ⟨b,off+k*11+1,none⟩=some (.int .i64 (q:Nat)):=hc 1 _ rfl;have e2:wr.cell? ⟨b,off+k*11+2,none⟩=some (.int .i64 jf):=hc 2 _ rfl;have e3:wr.cell? ⟨b,off+k*11+3,none⟩=some (.int .u64 c0_):=hc 3 _ rfl;have e4:wr.cell? ⟨b,off+k*11+4,none⟩=some (.int .u64 c1_):=hc 4 _ rfl;have e5:wr.cell? ⟨b,off+k*11+5,none⟩=some (.int .u64 c2_):=hc 5 _ rfl;have e6:wr.cell? ⟨b,off+k*11+6,none⟩=some (.int .u64 c3_):=hc 6 _ rfl;have e7:wr.cell? ⟨b,off+k*11+7,none⟩=some (.int .u64 c4_):=hc 7 _ rfl;have e8:wr.cell? ⟨b,off+k*11+8,none⟩=some (.int .u64 c5_):=hc 8 _ rfl;have e9:wr.cell? ⟨b,off+k*11+9,none⟩=some (.int .u64 c6_):=hc 9 _ rfl;have e10:wr.cell? ⟨b,off+k*11+10,none⟩=some (.int .u64 c7_):=hc 10 _ rfl;obtain⟨V6,hV6⟩:∃ V6,wr.alloc (.cells (zkj jw (q:Nat) jf c0_ c1_ c2_ c3_ c4_ c5_ c6_ c7_).toArray 115)=V6:=⟨_,rfl⟩;have kJ:=za hV6;have B6:=zab hV6;have zJ:=kJ.lt;obtain⟨-,j1,-⟩:=zc11 kJ;have zr:=HB.out.lt;have kA:=HB.out.below_ B6 zr;have zA:=kA.lt;have hat:=frB_at (bsW (s.dk.jobs.take k)) hq
        generalize frB (bsW (s.dk.jobs.take k))=F0 at kA HQ hat
        have c4:=(kA.cell_ q).trans hat;have f4:=kA.frozen_ q;have hq3:(q:Int)<256:=by omega
        have hq4:((q:Int)).toNat=q:=by omega
        clear hat;go_upto_region 11 with fail;(try rw[hV6]);clear hV6 e0 e1 e2 e3 e4 e5 e6 e7 e8 e9 e10;go_wp2_with fail
        go_roundw
        case rel=>exact⟨k+1,by omega,by go_num,by show Blk _ _ _ _;rw[←HQ.out];exact kA.set_ _ _,(hb.trans (B6.mono hb.size)).setCell (by simp) _⟩
        case measure=>simp[intOf];omega
       ·obtain rfl:k=s.dk.jobs.length:=by omega
        obtain⟨W3,rfl⟩:∃ W3,W3=wr:=⟨_,rfl⟩;rw[List.take_length] at HB;have B3:=zbt B2 hb;replace kX:=kX.below_ hb kX.lt;clear zkX;obtain⟨BL,hBL⟩:∃ BL,(List.range s.sl.busy.length).map (bsW s.dk.jobs)=BL:=⟨_,rfl⟩;have HBN:Hid (BL.length=s.sl.busy.length):=by show _=_;rw[←hBL];simp
        have HBL:=Lib.hid hBL;have HSA:Hid (SR boolE W3 (some ⟨w2.heap.size,0,none⟩) BL):=by show SR _ _ _ _;rw[←hBL];exact SR.of_frB HB.out (by omega)
        obtain⟨eqv,heqv⟩:∃ b,decide (BL=s.sl.busy)=b:=⟨_,rfl⟩;have HEQV:=Lib.hid heqv
        have HEQ:Hid (∀ W',Below W3.heap.size W3 W'→Calls Tryz.prog 126 #[.slice (some ⟨w2.heap.size,0,none⟩) s.sl.busy.length 256,.slice a1 s.sl.busy.length c1] W' fun e w'=>e=.returned (.bool eqv)∧Below W'.heap.size W' w'):=by
         show ∀ W',_
         intro W' hW';have h:=EqB_any (some ⟨w2.heap.size,0,none⟩) a1 256 c1 BL s.sl.busy W' (HSA.out.ext hW') (HS.out.r1.ext (B3.trans (hW'.mono B3.size))) (by rw[HBN.out];omega) (by omega);rw[HBN.out,HEQV.out] at h;exact h
        have i2:(s.sl.busy.length:Int)≤256:=by omega
        clear hBL heqv hk hlt;go_wp2_with fail;refine zrg [0,0,1,0,0,0,0,1,1,0] [[],[],[],[],[],[],[],[],[],[]] [.is ?_,.is ?_,.kn ?_,.is ?_,.is (.slice (some ⟨w2.heap.size,0,none⟩) s.sl.busy.length 256),.is ?_,.is ?_,.kn ?_,.kn (.bool eqv),.is ?_] [] (lts_is (lts_is (lts_kn (lts_is (lts_is (lts_is (lts_is (lts_kn (lts_kn (lts_is lts_nil)))))))))) (fun W0 hb0 hz0 => ?_)
        rotate_left 8
        have kW:=kX.below_ hb0 kX.lt;have zK:=kW.lt;have zA0:=(HB.out.below_ hb0 HB.out.lt).lt;obtain⟨-,-,y2,-⟩:=zc11 kW;refine zqp ?_;refine zqp ?_;refine zqT (fun w hbw hd => ?_) ?_
        ·have y2:=cell_keep hbw y2 zK
         exact zgs
        refine zqp ?_;refine zqP (fun w => ?_) ?_
        ·go_simp
         first | done | rfl
        refine zqp ?_;refine zqp ?_;refine zqT (fun w hbw hd => ?_) ?_
        ·have y2:=cell_keep hbw y2 zK
         exact zgs
        refine zqc (fun w hbw hd K Q' hK => ?_) ?_
        ·clear hd
         go_simp;refine (HEQ.out _ (hb0.trans (hbw.mono hb0.size))).mono ?_;rintro e y ⟨rfl,hy⟩;go_wp2_with fail;exact hK.out _ _ _ zpt zbm rfl
        refine zqp ?_;refine chn_end (fun wz lo hi hbz hd hR => ?_);have B4:Below w.heap.size w wz:=B3.trans ((hb0.trans (hbz.mono hb0.size)).mono B3.size);replace kX:=kX.below_ (hb0.trans (hbz.mono hb0.size)) kX.lt;clear hd hR y2;refine late_none ?_
        cases eqv with
        | false=>
         have HE:Hid (agW s=false):=by
          show _=_
          refine Bool.eq_false_iff.2 fun e => ?_
          have hag:=agW_ok.1 e;have h:=of_decide_eq_false HEQV.out;rw[←HBL.out] at h;exact h hag.2.2.2.1.symm
         go_wp2_with fail;go_ret;exact⟨by rw[HE.out];rfl,B4⟩
        | true=>
         have zkX:=kX.lt;obtain⟨-,-,-,-,-,-,-,-,-,q9,q10⟩:=zc11 kX;go_wp2_with fail;refine (pTaken_any a7 c7 s.po wz H4.out (HS.out.r7.ext B4) (HZ.out.ext HW0 B4)).mono ?_;rintro e5 w5 ⟨tA,tc,rfl,ht,hb5⟩;have B5:=zbt B4 hb5;replace kX:=kX.below_ hb5 kX.lt;obtain⟨T,hT⟩:∃ T,tknP s.po=T:=⟨_,rfl⟩;rw[hT] at ht;rw[hT];have HT:=Lib.hid hT;have HTS:Hid (SR intE w5 tA T):=ht.sr;have HTA:Hid (T.Pairwise (· < ·)):=by show List.Pairwise _ _;rw[←hT];exact tknP_asc _
         have hTl:T.length≤1000:=by
          have h:=tkn_free H4.out;have h2:=H4.out.size;rw[hT] at h;omega
         clear hT ht hb5 q9 q10 zkX HEQ HSA;have zkX:=kX.lt;obtain⟨-,-,-,-,-,q5,-,q7,-⟩:=zc11 kX;obtain⟨g4,hg4⟩:∃ b,((s.desc.length:Int) != (s.dk.jobs.length:Int))=b:=⟨_,rfl⟩;have HG4:=Lib.hid hg4
         cases g4 with
         | true=>
          have HE:Hid (agW s=false):=by
           show _=_
           refine Bool.eq_false_iff.2 fun e => ?_
           have hag:=agW_ok.1 e;have h:=HG4.out;rw[hag.2.2.2.2.1] at h;simp at h
          go_wp2_with fail;go_ret;exact⟨by rw[HE.out];rfl,B5⟩
         | false=>
          go_wp2_with fail;refine (values_any a4 s.desc.length c4 w5).mono ?_;rintro e6 w6 ⟨rfl,rfl⟩;have B6:Below w.heap.size w (w5.alloc (.cells #[.slice a4 s.desc.length c4] 22)):=B5.alloc B5.size _;go_wp2_with fail;refine (sortedV_any w5.heap.size a4 c4 s.desc _ ((HS.out.r4.ext B6).sl) (by omega) (Blk.new_ rfl rfl)).mono ?_;rintro e7 w7 ⟨sA,sc,rfl,hs7,hb7⟩;have B7:=zbt B6 hb7;have h57:Below w5.heap.size w5 w7:=((Below.refl _ w5).alloc (Nat.le_refl _) _).trans (hb7.mono (by simp));replace kX:=kX.below_ h57 kX.lt;obtain⟨eq2,heq2⟩:∃ b,decide (srt s.desc=T)=b:=⟨_,rfl⟩;have HEQ2:=Lib.hid heq2;have HE2:=EqI_any sA tA sc tc (srt s.desc) T w7 (SR.of_sl hs7) (HTS.out.ext h57) (by rw[srt_len];omega) hTl;rw[srt_len,heq2] at HE2;have HE3:=Lib.hid HE2;clear HE2 heq2 hs7 hb7 q5 q7 zkX;go_wp2_with fail;refine HE3.out.mono ?_;rintro e8 w8 ⟨rfl,hb8⟩;have B8:=zbt B7 hb8;replace kX:=kX.below_ hb8 kX.lt;clear HE3 hb8
          cases eq2 with
          | false=>
           have HE:Hid (agW s=false):=by
            show _=_
            refine Bool.eq_false_iff.2 fun e => ?_
            have hag:=agW_ok.1 e;refine of_decide_eq_false HEQ2.out ((desc_sorted HTA.out).2 ?_);rw[←HT.out];exact⟨hag.2.2.2.2.2.1,hag.2.2.2.2.2.2.1⟩
           go_wp2_with fail;go_ret;exact⟨by rw[HE.out];rfl,B8⟩
          | true=>
           have zkX:=kX.lt;obtain⟨q0,q1,q2,q3,q4,q5,q6,q7,q8,q9,q10⟩:=zc11 kX;go_wp2_with fail;refine (waiting_any ⟨a0,c0,a1,c1,a2,c2,a3,c3,a4,c4,a5,c5,a6,c6,a7,c7⟩ s w8 (HS.out.r2.ext B8) (HS.out.r3.ext B8) H2.out HWF.out f3).mono ?_;rintro e9 w9 ⟨hb9,⟨hw,M,n,rfl,hM,hMl⟩ | ⟨hw,rfl⟩⟩
           ·have HMM:=Lib.hid hM
            have HWK:=Lib.hid hw;have B9:=zbt B8 hb9;clear hM hw q0 q1 q2 q3 q4 q5 q6 q7 q8 q9 q10 zkX;replace kX:=kX.below_ hb9 kX.lt;clear hb9
            go_wp2_with (at_range;refine wpList_rangeT wtT _ rfl _ rfl _ rfl M n _ rfl HMM.out ?_;intro w10 cnt0 hR10 g10 s10)
            go_frame
            have B10:Below w.heap.size w w10:=B9.trans (((Below.refl _ w9).grown g10 (Nat.le_refl _) (fun j hj=>by cases hj)).mono B9.size);replace kX:=kX.below_ ((Below.refl _ w9).grown g10 (Nat.le_refl _) (fun j hj=>by cases hj)) kX.lt;obtain⟨r0,hr0⟩:∃ r,w9.heap.size=r:=⟨_,rfl⟩;rw[hr0] at hR10;rw[hr0];have HR10:=Lib.hid hR10;have HRLT:r0≤w10.heap.size:=by omega
            have HRM:M<r0:=by have:=HMM.out.lt;omega
            have HSL:Hid (∀ p v,lkV (wtV s) p=some v→0≤v.2∧v.2<s.sl.refs.length):=fun p v hv=>wt_range H3.out (by have:=HG1.out;simp at this;omega) (mtW_iff.1 HM1.out) (mtW_iff.1 HM2.out) ((wtV_lk s HWK.out).1 hv)
            have hBr:w.heap.size≤r0:=by rw[←hr0];exact B9.size
            clear hR10 hr0 s10 g10
            go_loopw [9] (fun o wr=>∃ (ok:Bool) (cnt:Nat) (left:Int→Bool),o=.bool ok∧Hid (RngT wtT wr M r0 n (lkV (wtV s)) left cnt)∧Hid (ok=true ↔ ∀ p v,lkV (wtV s) p=some v→left p=false→0<refT s.sl v.2.toNat)∧Hid (Blk wr w.heap.size 35 (zkx s a0 c0 a1 c1 a2 c2 a3 c3 a4 c4 a5 c5 a6 c6 a7 c7).toArray)∧Below w.heap.size w wr) (fun _ wr=>wr.rangeLeft M r0)
            case atStart=>exact⟨true,cnt0,fun _=>true,rfl,HR10.out,(show _↔_ from ⟨fun _ _ _ _ h=>(by cases h),fun _=>rfl⟩),kX,B10⟩
            case round=>
             clear HR10 kX HMM HRLT;obtain⟨ok,cnt,left,rfl,HR,HO,HK,hb⟩:=hrel
             go_upto_region 23 with (at_next;refine wpList_nextWt _ rfl _ rfl M r0 n _ left cnt rfl HR.out (fun hd => ?_) (fun p v0 v1 w5b cnt2 hk hl hR2 hlt2 hg2 hs2 hen => ?_))
             ·go_wp2_with fail
              go_ret;refine⟨?_,hb⟩;have e:=ag_end (ok:=ok) (left:=left) ⟨by have:=HG1.out;simp at this;omega,by have:=HG2.out;simpa using this,by have:=HG3.out;simp at this;omega⟩ HM1.out HM2.out (by rw[HBL.out];exact(of_decide_eq_true HEQV.out).symm) (by have:=HG4.out;simp at this;omega) (by rw[HT.out];exact of_decide_eq_true HEQ2.out) HWK.out HO.out hd desc_sorted;rw[e];rfl
             ·have hvr:=HSL.out _ _ hk
              dsimp only at hvr;obtain⟨q,rfl⟩:∃ q:Nat,v1=q:=⟨v1.toNat,by omega⟩;have hq:q<s.sl.refs.length:=by omega
              have hb5:Below w.heap.size w w5b:=hb.grown hg2 hb.size (fun j hj=>by cases hj;exact hBr);obtain⟨b,off,x,rfl,hbl,hx,hc⟩:=(HS.out.r0.ext hb5).at_ hq;have HX:Hid (refT s.sl q=x):=by show _=_;unfold refT;rw[List.getD_eq_getElem?_getD,hx];rfl
              have cf5:w5b.cell? ⟨b,off+q,none⟩=some (.int .i64 x):=by
               have:=hc 0 _ rfl
               rwa [show off+q*intE.sz+0=off+q from by show off+q*1+0=_;omega] at this
              have h08:=B8.size;have kS5:Blk w5b w.heap.size _ _:=(hg2.block _ HK.out.lt (by simp;omega)).trans HK.out;obtain⟨V6,hV6⟩:∃ V6,w5b.alloc (.cells #[.bool v0,.int .i64 (q:Nat)] 128)=V6:=⟨_,rfl⟩;have kJ:=za hV6;have B6:=zab hV6;have G6:w5b.grownBy V6 none:=by rw[←hV6];exact World.grownBy_alloc _ _ _
              have zJ:=kJ.lt;obtain⟨-,j1⟩:=zc2 kJ;have kS6:=kS5.below_ B6 (Blk.lt kS5);have zS6:=Blk.lt kS6;have y1:V6.cell? ⟨w.heap.size,1,none⟩=some (.slice (some ⟨b,off,none⟩) s.sl.refs.length c0):=by simpa using Blk.cell_ kS6 1
              have cf6:=cell_keep B6 cf5 hbl;have zb:b<V6.heap.size:=Nat.lt_of_lt_of_le hbl B6.size;have hR6:=hR2.kept G6 (by simp) (by simp);have HR6:=Lib.hid hR6;have q3:(q:Int)<s.sl.refs.length:=by omega
              have q4:((q:Int)).toNat=q:=by omega
              have HO6:Hid ((ok && decide (0<x))=true ↔ ∀ p' v',lkV (wtV s) p'=some v'→(left p' && !decide (p'=p))=false→0<refT s.sl v'.2.toNat):=by
               have:=all_step (f:=fun n=>refT s.sl n.toNat) HO.out hk;dsimp only at this;rw[q4,HX.out] at this;exact this
              have HLT:wr.rangeLeft M r0=cnt:=HR.out.left_eq;have HLE:Hid (V6.rangeLeft M r0=cnt2∧wr.rangeLeft M r0=cnt):=⟨HR6.out.left_eq,HR.out.left_eq⟩;have hb6:=zbt hb5 B6;clear HLT hR6 hR2 HR HO HK hk hl hx hc cf5 kS5 G6 hs2 hg2 hvr h08;go_upto_region 24 with fail;(try rw[hV6]);clear hV6 hen
              cases ok with
              | false=>
               go_wp2_with fail
               go_roundw
               case rel=>exact⟨false,cnt2,_,rfl,HR6.out,HO6.out,kS6,hb6⟩
               case measure=>rw[HLE.out.1,HLE.out.2];exact hlt2
              | true=>
               go_wp2_with fail
               go_roundw
               case rel=>
                refine⟨decide (0<x),cnt2,_,by simp,HR6.out,?_,kS6,hb6⟩;have:=HO6.out;rw[Bool.true_and] at this;exact this
               case measure=>rw[HLE.out.1,HLE.out.2];exact hlt2
           ·have HB:Hid (agW s=false):=by
             show _=_
             refine Bool.eq_false_iff.2 fun e => ?_
             have hag:=agW_ok.1 e
             have h3:wtok s=true:=by
              unfold wtok;rw[decide_eq_true hag.2.2.2.2.2.2.2.1.1,Bool.true_and,List.all_eq_true];intro x hx;simpa using hag.2.2.2.2.2.2.2.1.2 x hx
             rw[h3] at hw
             cases hw
            have B9:=zbt B8 hb9;clear hw q0 q1 q2 q3 q4 q5 q6 q7 q8 q9 q10 zkX kX hb9
            have hrn:=fun (w:World)=>run_range_nilMap (P:=Tryz.prog) w 124 3 128 Tryz.underlying124
            have hnx:=fun (ty:TypeId) (a b:Nat) (s:Array Nat)=>run_next_nilMap (P:=Tryz.prog) w9 ty a b s
            go_wp2_with fail
            go_loopw [9] (fun o wr=>o=.bool false∧wr=w9.alloc (.mapIter none 0 #[] 0)) (fun _ _=>0)
            case atStart=>exact⟨rfl,rfl⟩
            case round=>
             obtain⟨rfl,rfl⟩:=hrel;go_wp2_with fail;go_ret;exact⟨by rw[HB.out];rfl,B9.alloc B9.size _⟩
def idxI:Option Nat→Int
 | none => -1
 | some i=>i
theorem fx_hit{α:Type}{l:List α}{p:α→Bool}{k:Nat}{x:α}(h:∀ y ∈ l.take k,p y=false)(hx:l[k]? = some x)(hp:p x=true):l.findIdx? p=some k:=by
 obtain⟨hk,e⟩:=List.getElem?_eq_some_iff.1 hx;rw[List.findIdx?_eq_some_iff_getElem];refine⟨hk,by rw[e];exact hp,fun j hj => ?_⟩;have:=h l[j] (List.mem_take_iff_getElem.2 ⟨j,by omega,rfl⟩);simpa using this
theorem fx_none{α:Type}{l:List α}{p:α→Bool}(h:∀ y ∈ l,p y=false):l.findIdx? p=none:=by
 rw[List.findIdx?_eq_none_iff];exact h
theorem fx_step{α:Type}{l:List α}{p:α→Bool}{k:Nat}{x:α}(h:∀ y ∈ l.take k,p y=false)(hx:l[k]? = some x)(hp:p x=false):∀ y ∈ l.take (k+1),p y=false:=by
 rw[List.take_add_one,hx];intro y hy
 rcases List.mem_append.1 hy with hy | hy
 ·exact h y hy
 ·simp at hy
  subst hy;exact hp
theorem ixJ1_any(j:Jb)(B:Nat)(f:Int)(w:World)(hB:w.cell? ⟨B,0,none⟩=some (.int .i64 f))(hl:B<w.heap.size):Calls Tryz.prog 103 #[.agg (jbE.enc j).toArray,.pointer (some ⟨B,0,none⟩)] w fun e w'=>e=.returned (.bool (decide (j.frame=f)))∧Below w.heap.size w w':=by
 obtain⟨jw,js_,jf,⟨e0,e1,e2,e3,e4,e5,e6,e7⟩⟩:=j;show Calls _ _ #[.agg (zkj jw js_ jf e0 e1 e2 e3 e4 e5 e6 e7).toArray,.pointer (some ⟨B,0,none⟩)] _ _;dsimp only
 by_cases h:jf=f
 ·subst h
  rw[show decide (jf=jf)=true by simp]
  go_enter Tryz.func103,Tryz.ntmps103
  go_wp2_with fail;go_ret;exact⟨by simp,zbl⟩
 ·have hb:(jf == f)=false:=by simpa using h
  rw[show decide (jf=f)=false by simpa using h]
  go_enter Tryz.func103,Tryz.ntmps103
  go_wp2_with fail;go_ret;exact⟨by simp,zbl⟩
theorem ixJ_any(A:Option Addr)(c:Nat)(l:List Jb)(B:Nat)(f:Int)(w:World)(ha:SR jbE w A l)(la:l.length≤1000)(hB:w.cell? ⟨B,0,none⟩=some (.int .i64 f))(hl:B<w.heap.size) :
  Calls Tryz.prog 158 #[.slice A l.length c,.func (.func 103) #[] #[.pointer (some ⟨B,0,none⟩)]] w fun e w'=>e=.returned (.int .i64 (idxI (l.findIdx? fun j=>decide (j.frame=f))))∧Below w.heap.size w w':=by
 have HA:=Lib.hid ha;have HB:=Lib.hid hB;have HL:=Lib.hid hl;obtain⟨m,hm⟩:∃ m,l.length=m:=⟨_,rfl⟩;obtain⟨R,hR⟩:∃ R,idxI (l.findIdx? fun j=>decide (j.frame=f))=R:=⟨_,rfl⟩;rw[hm,hR];have HM:=Lib.hid hm;have HR:=Lib.hid hR;have la':m≤1000:=by omega
 clear ha hB hl hm hR la
 go_enter Tryz.func158,Tryz.ntmps158
 go_wp2_with fail
 go_loopw [8] (fun i wr=>∃ k:Nat,k≤m∧i=.int .i64 k∧Hid (∀ y ∈ l.take k,decide (y.frame=f)=false)∧Below w.heap.size w wr) (fun i _=>m - (intOf i).toNat)
 case atStart=>exact⟨0,by omega,rfl,(show ∀ y ∈ l.take 0,_ from fun y hy=>(by simp at hy)),Below.refl _ _⟩
 case round=>
  obtain⟨k,hk,rfl,HP,hb⟩:=hrel
  by_cases hlt:k<m
  ·have i1:(k:Int)<m:=by omega
   obtain⟨b,off,y,rfl,hbl,hx,hc⟩:=(HA.out.ext hb).at_ (k:=k) (by rw[HM.out];exact hlt);have HX:=Lib.hid hx;have HC1:=Lib.hid (ixJ1_any y B f wr (cell_keep hb HB.out HL.out) (Nat.lt_of_lt_of_le HL.out hb.size));clear hx;obtain⟨vv,hvv⟩:∃ b,decide (y.frame=f)=b:=⟨_,rfl⟩;rw[hvv] at HC1;have HVV:=Lib.hid hvv;obtain⟨jw,js_,jf,⟨e0,e1,e2,e3,e4,e5,e6,e7⟩⟩:=y;clear hvv;have f0:wr.cell? ⟨b,off+k*11,none⟩=some (.bool jw):=hc 0 _ rfl;have f1:wr.cell? ⟨b,off+k*11+1,none⟩=some (.int .i64 js_):=hc 1 _ rfl;have f2:wr.cell? ⟨b,off+k*11+2,none⟩=some (.int .i64 jf):=hc 2 _ rfl;have f3:wr.cell? ⟨b,off+k*11+3,none⟩=some (.int .u64 e0):=hc 3 _ rfl;have f4:wr.cell? ⟨b,off+k*11+4,none⟩=some (.int .u64 e1):=hc 4 _ rfl;have f5:wr.cell? ⟨b,off+k*11+5,none⟩=some (.int .u64 e2):=hc 5 _ rfl;have f6:wr.cell? ⟨b,off+k*11+6,none⟩=some (.int .u64 e3):=hc 6 _ rfl;have f7:wr.cell? ⟨b,off+k*11+7,none⟩=some (.int .u64 e4):=hc 7 _ rfl;have f8:wr.cell? ⟨b,off+k*11+8,none⟩=some (.int .u64 e5):=hc 8 _ rfl;have f9:wr.cell? ⟨b,off+k*11+9,none⟩=some (.int .u64 e6):=hc 9 _ rfl;have f10:wr.cell? ⟨b,off+k*11+10,none⟩=some (.int .u64 e7):=hc 10 _ rfl;go_wp2_with fail;refine HC1.out.mono ?_;rintro e7 w7 ⟨rfl,hb7⟩
   cases vv with
   | true=>
    have HE:Hid (R=k):=by
     show _=_;rw[←HR.out,fx_hit HP.out HX.out HVV.out];rfl
    go_wp2_with fail;go_ret;exact⟨by rw[HE.out];rfl,hb.trans (hb7.mono hb.size)⟩
   | false=>
    have HN:Hid (∀ y ∈ l.take (k+1),decide (y.frame=f)=false):=fx_step HP.out HX.out HVV.out;go_wp2_with fail
    go_roundw
    case rel=>exact⟨k+1,by omega,by go_num,HN,hb.trans (hb7.mono hb.size)⟩
    case measure=>simp[intOf];omega
  ·obtain rfl:k=m:=by omega
   have HE:Hid (R = -1):=by
    show _=_;have h:=HP.out;rw[←HM.out,List.take_length] at h;rw[←HR.out,fx_none h];rfl
   go_wp2_with fail;go_ret;exact⟨by rw[HE.out];rfl,hb⟩
theorem ixR1_any(j:Wr)(B:Nat)(f:Int)(w:World)(hB:w.cell? ⟨B,1,none⟩=some (.int .i64 f))(hl:B<w.heap.size):Calls Tryz.prog 180 #[.agg (rdE.enc j).toArray,.pointer (some ⟨B,0,none⟩)] w fun e w'=>e=.returned (.bool (decide (j.1=f)))∧Below w.heap.size w w':=by
 obtain⟨v0,v1,v2⟩:=j;show Calls _ _ #[.agg #[.int .i64 v0,.int .i64 v1,.int .i64 v2],.pointer (some ⟨B,0,none⟩)] _ _;dsimp only
 by_cases h:v0=f
 ·subst h
  rw[show decide (v0=v0)=true by simp]
  go_enter Tryz.func180,Tryz.ntmps180
  go_wp2_with fail;go_ret;exact⟨by simp,zbl⟩
 ·have hb:(v0 == f)=false:=by simpa using h
  rw[show decide (v0=f)=false by simpa using h]
  go_enter Tryz.func180,Tryz.ntmps180
  go_wp2_with fail;go_ret;exact⟨by simp,zbl⟩
theorem ixR_any(A:Option Addr)(c:Nat)(l:List Wr)(B:Nat)(f:Int)(w:World)(ha:SR rdE w A l)(la:l.length≤1000)(hB:w.cell? ⟨B,1,none⟩=some (.int .i64 f))(hl:B<w.heap.size) :
  Calls Tryz.prog 179 #[.slice A l.length c,.func (.func 180) #[] #[.pointer (some ⟨B,0,none⟩)]] w fun e w'=>e=.returned (.int .i64 (idxI (l.findIdx? fun j=>decide (j.1=f))))∧Below w.heap.size w w':=by
 have HA:=Lib.hid ha;have HB:=Lib.hid hB;have HL:=Lib.hid hl;obtain⟨m,hm⟩:∃ m,l.length=m:=⟨_,rfl⟩;obtain⟨R,hR⟩:∃ R,idxI (l.findIdx? fun j=>decide (j.1=f))=R:=⟨_,rfl⟩;rw[hm,hR];have HM:=Lib.hid hm;have HR:=Lib.hid hR;have la':m≤1000:=by omega
 clear ha hB hl hm hR la
 go_enter Tryz.func179,Tryz.ntmps179
 go_wp2_with fail
 go_loopw [8] (fun i wr=>∃ k:Nat,k≤m∧i=.int .i64 k∧Hid (∀ y ∈ l.take k,decide (y.1=f)=false)∧Below w.heap.size w wr) (fun i _=>m - (intOf i).toNat)
 case atStart=>exact⟨0,by omega,rfl,(show ∀ y ∈ l.take 0,_ from fun y hy=>(by simp at hy)),Below.refl _ _⟩
 case round=>
  obtain⟨k,hk,rfl,HP,hb⟩:=hrel
  by_cases hlt:k<m
  ·have i1:(k:Int)<m:=by omega
   obtain⟨b,off,y,rfl,hbl,hx,hc⟩:=(HA.out.ext hb).at_ (k:=k) (by rw[HM.out];exact hlt);have HX:=Lib.hid hx;have HC1:=Lib.hid (ixR1_any y B f wr (cell_keep hb HB.out HL.out) (Nat.lt_of_lt_of_le HL.out hb.size));clear hx;obtain⟨vv,hvv⟩:∃ b,decide (y.1=f)=b:=⟨_,rfl⟩;rw[hvv] at HC1;have HVV:=Lib.hid hvv;obtain⟨v0,v1,v2⟩:=y;clear hvv;have f0:wr.cell? ⟨b,off+k*3,none⟩=some (.int .i64 v0):=hc 0 _ rfl;have f1:wr.cell? ⟨b,off+k*3+1,none⟩=some (.int .i64 v1):=hc 1 _ rfl;have f2:wr.cell? ⟨b,off+k*3+2,none⟩=some (.int .i64 v2):=hc 2 _ rfl;go_wp2_with fail;refine HC1.out.mono ?_;rintro e7 w7 ⟨rfl,hb7⟩
   cases vv with
   | true=>
    have HE:Hid (R=k):=by
     show _=_;rw[←HR.out,fx_hit HP.out HX.out HVV.out];rfl
    go_wp2_with fail;go_ret;exact⟨by rw[HE.out];rfl,hb.trans (hb7.mono hb.size)⟩
   | false=>
    have HN:Hid (∀ y ∈ l.take (k+1),decide (y.1=f)=false):=fx_step HP.out HX.out HVV.out;go_wp2_with fail
    go_roundw
    case rel=>exact⟨k+1,by omega,by go_num,HN,hb.trans (hb7.mono hb.size)⟩
    case measure=>simp[intOf];omega
  ·obtain rfl:k=m:=by omega
   have HE:Hid (R = -1):=by
    show _=_;have h:=HP.out;rw[←HM.out,List.take_length] at h;rw[←HR.out,fx_none h];rfl
   go_wp2_with fail;go_ret;exact⟨by rw[HE.out];rfl,hb⟩
theorem Check_any(A:Option Addr)(c:Nat)(l:List Wr)(w:World)(ha:SW w A l)(la:l.length≤1000){z:Int}{n:Nat}(h:chkS l=(z,n)) :
  Calls Tryz.prog 60 #[.slice A l.length c] w fun e w'=>e=.returned (.tuple #[.int .i64 z,.int .i64 n])∧Below w.heap.size w w':=by
 have HS:=Lib.hid ha;clear ha
 by_cases hz:z=0
 ·subst hz
  have HZ:Hid ((chkS l).1=0):=by show _=_;rw[h]
  have HN:Hid ((chkS l).2=n):=by show _=_;rw[h]
  clear h
  go_enter Tryz.func60,Tryz.ntmps60
  go_wp2_with (first | (go_at_call 120;with_reducible refine (read_good _ _ _ _ HS.out la HZ.out).mono ?_;rw[HN.out];rintro e w1 ⟨B,rfl,hB,hm,hb1⟩))
  refine bodyPost_ret (by simp[results,Tryz.results60,go_sem] <;> rfl) rfl ?_;exact⟨rfl,hb1⟩
 ·have H:=Lib.hid h
  clear h
  go_enter Tryz.func60,Tryz.ntmps60
  go_wp2_with (first | (go_at_call 120;with_reducible refine (read_bad _ _ _ _ HS.out la H.out hz).mono ?_;rintro e w1 ⟨rfl,hb1⟩))
  refine bodyPost_ret (by simp[results,Tryz.results60,go_sem] <;> rfl) rfl ?_;exact⟨rfl,hb1⟩
theorem findS_zero{l:List Wr}{s z:Int}{n:Nat}(h:findS l s=(n,z))(hz:z≠0):n=0:=by
 unfold findS at h
 by_cases h0:(chkS l).1≠0
 ·rw[if_pos h0] at h
  exact(Prod.mk.inj h).1.symm
 ·rw[if_neg h0] at h
  by_cases hs:0≤s∧s<256
  ·rw[if_pos hs] at h
   cases hf:l.findIdx? (fun x=>decide (x.1=s)) with
   | none=>rw[hf] at h;exact(Prod.mk.inj h).1.symm
   | some k=>
    rw[hf] at h;exact absurd (Prod.mk.inj h).2.symm hz
  ·rw[if_neg hs] at h
   exact(Prod.mk.inj h).1.symm
theorem Find_any(A:Option Addr)(c:Nat)(l:List Wr)(s:Int)(w:World)(ha:SW w A l)(la:l.length≤1000){n:Nat}{z:Int}(h:findS l s=(n,z)) :
  Calls Tryz.prog 94 #[.slice A l.length c,.int .i64 s] w fun e w'=>e=.returned (.tuple #[.int .i64 n,.int .i64 z])∧Below w.heap.size w w':=by
 have HS:=Lib.hid ha;clear ha
 by_cases hz:z=0
 ·subst hz
  have H:=Lib.hid h;clear h
  go_enter Tryz.func94,Tryz.ntmps94
  go_wp2_with (first | (go_at_call 152;with_reducible refine (find_good _ _ _ _ _ HS.out la H.out).mono ?_;rintro e w1 ⟨B,rfl,hB,hm,hb1⟩))
  refine bodyPost_ret (by simp[results,Tryz.results94,go_sem] <;> rfl) rfl ?_;exact⟨rfl,hb1⟩
 ·obtain rfl:=findS_zero h hz
  have HK:Hid ((findS l s).2=z):=by show _=_;rw[h]
  clear h
  go_enter Tryz.func94,Tryz.ntmps94
  go_wp2_with (first | (go_at_call 152;with_reducible refine (find_bad _ _ _ _ _ HS.out la HK.out hz).mono ?_;rintro e w1 ⟨rfl,hb1⟩))
  refine bodyPost_ret (by simp[results,Tryz.results94,go_sem] <;> rfl) rfl ?_;exact⟨rfl,hb1⟩
end Go.Proofs.YthijbipidbjpfaaGreatDoor
