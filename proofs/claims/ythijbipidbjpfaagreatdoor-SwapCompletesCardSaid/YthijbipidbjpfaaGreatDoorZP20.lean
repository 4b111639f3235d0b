import Derived.Test.YthijbipidbjpfaaGreatDoorZP19
import Derived.Test.YthijbipidbjpfaaGreatDoorZP00
import Derived.Test.YthijbipidbjpfaaGreatDoorZP03
import Derived.Test.YthijbipidbjpfaaGreatDoorZP14
import Derived.Test.YthijbipidbjpfaaGreatDoorZP06
set_option linter.unusedSimpArgs false
set_option linter.unusedVariables false
set_option maxRecDepth 100000
set_option maxHeartbeats 8000000
namespace Go.Proofs.YthijbipidbjpfaaGreatDoor
open Go.RowKit Go.Maps
section
variable {w w1 : World} {base B : Nat} {L : Lay} {s : Swp}
theorem intE_at{A:Option Addr}{c n:Nat}{l:List Int}{x:Int}(h:OwnE intE w base A c l)(hx:l[n]? = some x):∃ g,A=some ⟨g,0,none⟩∧base≤g∧g<w.heap.size∧w.cell? ⟨g,n,none⟩=some (.int .i64 x)∧OwnR intE w base (.slice A l.length c) l∧c≠0:=by
 obtain⟨hi,_⟩:=List.getElem?_eq_some_iff.1 hx;have hr:OwnR intE w base (.slice A l.length c) l:=h.own.resolve_left (fun e=>by rw[e] at hi;simp at hi);obtain⟨g,cur,rfl,_,hg,hB,h1,_⟩:=hr.blk (by omega);obtain⟨b,off,y,e,_,hy,hc⟩:=hr.sr.2.at_ hi;injection e with e
 injection e with e1 e2
 subst e1 e2;rw[hx] at hy;injection hy with hy
 subst hy;have:=hc 0 _ rfl;rw[show 0+n*intE.sz+0=n from by show 0+n*1+0=_;omega] at this;exact⟨g,rfl,hg,hB.lt,this,hr,by omega⟩
theorem OwnE.farBN{α:Type}{E:Elt Tryz.prog α}{A:Option Addr}{c:Nat}{l:List α}:∀ (vs:List Value) {w:World} {b o:Nat} {t:TypeId} {cs:Array Value},OwnE E w base A c l→Blk w b t cs→E.e≠t→OwnE E (setN w b o vs) base A c l
 | [],_,_,_,_,_,h,_,_=>h
 | v::vs,_,_,o,_,_,h,hb,ht=>OwnE.farBN vs (h.farB hb ht o v) (hb.set_ o v) ht
theorem WkAt.blkN{b o:Nat}{t:TypeId}{cs:Array Value}(h:WkAt w base B L s)(hb:Blk w b t cs)(ht:t≠87)(vs:List Value):Blk (setN w b o vs) B 87 (swC L s).toArray:=by
 have hne:B≠b:=by
  intro e2;have h1:=h.blk;rw[e2] at h1;unfold Blk at h1 hb;rw[hb] at h1;injection h1 with h1
  injection h1 with _ h1
  exact ht h1
 exact((grown_setN w b o vs).block B h.lt (by simpa using fun e=>hne e)).trans h.blk
theorem WkAt.farJ(h:WkAt w base B L s){b:Nat}{cs:Array Value}(hJ:Blk w b 115 cs)(vs:List Value)(o6:OwnE jbE (setN w b 0 vs) base L.a6 L.c6 s.dk.jobs):WkAt (setN w b 0 vs) base B L s:=
 have x:=h.own
 ⟨h.blkN hJ (by decide) vs,⟨x.o0.farBN vs hJ (by decide),x.o1.farBN vs hJ (by decide),x.o2.lift fun o=>o.farBN vs hJ (by decide),x.o3.farBN vs hJ (by decide),x.o4.farBN vs hJ (by decide),x.o5.farBN vs hJ (by decide),o6,x.o7.farBN vs hJ (by decide),x.p0,x.p7⟩,h.low⟩
theorem WkAt.farD(h:WkAt w base B L s){b:Nat}{cs:Array Value}(hJ:Blk w b 55 cs)(vs:List Value):WkAt (setN w b 0 vs) base B L s:=
 have x:=h.own
 ⟨h.blkN hJ (by decide) vs,⟨x.o0.farBN vs hJ (by decide),x.o1.farBN vs hJ (by decide),x.o2.lift fun o=>o.farBN vs hJ (by decide),x.o3.farBN vs hJ (by decide),x.o4.farBN vs hJ (by decide),x.o5.farBN vs hJ (by decide),x.o6.farBN vs hJ (by decide),x.o7.farBN vs hJ (by decide),x.p0,x.p7⟩,h.low⟩
end
def PoF(P:Pol)(v:Value)(lo _hi:Nat)(w:World):Prop:=∃ A c,v=.tuple #[poV A c P,.int .i64 0]∧OwnE intE w lo A c P.free
theorem PoF.lasts(P:Pol):(Fk.has (PoF P)).lasts:=fun _ _ _ _ _ ⟨A,c,e,h⟩ hb=>⟨A,c,e,h.ext hb⟩
def StF(T:Sts)(z:List Value)(v:Value)(lo _hi:Nat)(w:World):Prop:=∃ A c A' c',v=.tuple (stV A c A' c' T::z).toArray∧OwnE intE w lo A c T.refs∧OwnE boolE w lo A' c' T.busy
theorem StF.lasts(T:Sts)(z:List Value):(Fk.has (StF T z)).lasts:=fun _ _ _ _ _ ⟨A,c,A',c',e,h,h'⟩ hb=>⟨A,c,A',c',e,h.ext hb,h'.ext hb⟩
def EndW(s:Swp)(j:Jb)(wr' rd':List Wr)(pr:Int):Prop:=
 (j.wr=true→∃ v,remS s.wr j.slot=(wr',v,0)∧v.2.2=pr∧rd'=s.rd)∧(j.wr=false→∃ (i:Nat) (v:Wr),s.rd[i]? = some v∧s.rd.findIdx? (fun v=>decide (v.1=j.slot))=some i∧s.rd.eraseIdx i=rd'∧v.2.2=pr∧wr'=s.wr)
theorem end_any(base B:Nat)(L:Lay)(s:Swp)(j:Jb)(w:World)(h:WkAt w base B L s)(f2:s.wr.length≤1000)(f3:s.rd.length≤1000){wr' rd':List Wr}{pr:Int}(h1:EndW s j wr' rd' pr) :
  Calls Tryz.prog 140 #[.pointer (some ⟨B,0,none⟩),jbV j] w fun e w'=>e=.returned (.tuple #[.int .i64 pr,.int .i64 0])∧(∃ L',WkAt w' base B L' { s with wr:=wr',rd:=rd' })∧Below base w w'∧KeepT w w':=by
 cases hj:j.wr with
 | true=>
  obtain⟨v,h2,h3,h4⟩:=h1.1 hj;subst h3 h4;exact end_wr base B L s j w h f2 f3 hj h2
 | false=>
  obtain⟨i,v,h2,h3,h4,h5,h6⟩:=h1.2 hj;subst h4 h5 h6;exact end_rd base B L s j w h f2 f3 hj h2 h3
theorem complete_work(base B:Nat)(L:Lay)(s:Swp)(n:Nat)(w:World)(h:WkAt w base B L s)(hf:Few s){D:Dsk}{J:Jb}{P:Pol}{T1 T2:Sts}{wr' rd':List Wr}{pr dd:Int}{bb bu:Bool}
  (hx:s.desc[n]? = some dd) (h1:cmpD s.dk n=(D,J,0)) (h2:gvP s.po dd=(P,0)) (h3:EndW s J wr' rd' pr) (h4:setT s.sl J.slot=(T1,bb,0)) (hl1:T1.refs.length≤40) (hl2:T1.busy.length≤40) (h5:pr≠0→unrT T1 J.slot=(T2,bu,0)) (h6:pr=0→T2=T1) :
  Calls Tryz.prog 79 #[.pointer (some ⟨B,0,none⟩),.int .i64 n] w fun e w'=>e=.returned (.tuple #[.agg (.bool J.wr::.int .i64 J.slot::.int .i64 J.frame::.int .i64 pr::ctC J.data).toArray,.int .i64 0]) ∧
   (∃ L',WkAt w' base B L' ⟨s.cap,T2,wr',rd',s.desc.eraseIdx n,D,P⟩)∧Below base w w':=by
 obtain⟨a0,c0,a1,c1,a2,c2,a3,c3,a4,c4,a5,c5,a6,c6,a7,c7⟩:=L;have HF:=Lib.hid hf;obtain⟨f0,f1,f2,f3,f4,f5,f6,f7⟩:=hf;have hlow:=h.low;have hbw:base≤w.heap.size:=by have:=h.lt;omega
 have hBw:B<w.heap.size:=h.lt;obtain⟨jw,js_,jf,⟨e0,e1,e2,e3,e4,e5,e6,e7⟩⟩:=J;dsimp only at h4 h5;obtain⟨X,hX⟩:∃ X,(w.alloc (.cells (zkn false 0 0 0 0 0 0 0 0 0 0 0).toArray 55)).alloc (.cells (zkj false 0 0 0 0 0 0 0 0 0 0).toArray 115)=X:=⟨_,rfl⟩;have BX:Below w.heap.size w X:=by rw[←hX];exact zbl
 have kD:=za1 hX;have kJ:=za2 hX;have hXs:w.heap.size+1<X.heap.size:=kJ.lt;have HK:=Lib.hid (h.ext BX);have kB:Blk X B 87 (zkx s a0 c0 a1 c1 a2 c2 a3 c3 a4 c4 a5 c5 a6 c6 a7 c7).toArray:=HK.out.blk;have hC:=dComplete_any a5 a6 c5 c6 s.dk n X HK.out.own.o5.sr HK.out.own.o6.sr f5 f6;rw[h1] at hC;have HC:=Lib.hid hC;have H2:=Lib.hid h2;have H3:=Lib.hid h3;have H4:=Lib.hid h4;have H5:=Lib.hid h5;have H6:=Lib.hid h6;have HX:=Lib.hid hx;have hn:n<s.desc.length:=(List.getElem?_eq_some_iff.1 hx).1;have n1:(n:Int)<s.desc.length:=by omega
 have hbX:base≤X.heap.size:=Nat.le_trans hbw BX.size;clear h hC h1 h2 h3 h4 h5 h6 hx;have zB:=kB.lt;have zJ:=kJ.lt;have zD:=kD.lt;obtain⟨-,-,-,-,-,-,q6,q7,q8,-⟩:=zc11 kB
 go_enter Tryz.func79,Tryz.ntmps79
 go_wp2_with fail;(try rw[hX]);clear hX q6 q7 q8;refine HC.out.mono ?_;rintro ee1 w1 ⟨A6,d6,A7,d7,rfl,oC,oJ,hb1⟩;unfold dkV jbV jbC ctC;dsimp only at oC oJ;dsimp only;have kB1:=kB.below_ hb1 zB;have kJ1:=kJ.below_ hb1 zJ;have kD1:=kD.below_ hb1 zD;have zB1:=kB1.lt;have zJ1:=kJ1.lt;obtain⟨-,-,-,-,-,-,q6,q7,q8,-⟩:=zc11 kB1;obtain⟨-,-,-,-,-,-,qf6,qf7,qf8,-⟩:=zf kB1;obtain⟨y0,y1,y2,y3,y4,y5,y6,y7,y8,y9,y10⟩:=zc11 kJ1;obtain⟨yf0,yf1,yf2,yf3,yf4,yf5,yf6,yf7,yf8,yf9,yf10,-⟩:=zf kJ1;go_upto_region 3 with fail;obtain⟨u2,hu2⟩:∃ u2,((w1.setCell ⟨B,6,none⟩ (.slice A6 D.cells.length d6)).setCell ⟨B,7,none⟩ (.slice A7 D.jobs.length d7)).setCell ⟨B,8,none⟩ (.int .i64 D.room)=u2:=⟨_,rfl⟩;rw[hu2];have K2:WkAt u2 base B ⟨a0,c0,a1,c1,a2,c2,a3,c3,a4,c4,A6,d6,A7,d7,a7,c7⟩ { s with dk:=D }:=by rw[←hu2];exact HK.out.disk hb1 oC oJ
 have kJ2:Blk u2 (w.heap.size+1) 115 (zkj false 0 0 0 0 0 0 0 0 0 0).toArray:=by rw[←hu2];exact((kJ1.far_ (p:=⟨B,6,none⟩) (by show _≠B;omega) _).far_ (p:=⟨B,7,none⟩) (by show _≠B;omega) _).far_ (p:=⟨B,8,none⟩) (by show _≠B;omega) _
 have kD2:Blk u2 w.heap.size 55 (zkn false 0 0 0 0 0 0 0 0 0 0 0).toArray:=by rw[←hu2];exact((kD1.far_ (p:=⟨B,6,none⟩) (by show _≠B;omega) _).far_ (p:=⟨B,7,none⟩) (by show _≠B;omega) _).far_ (p:=⟨B,8,none⟩) (by show _≠B;omega) _
 have oJ2:OwnE jbE u2 X.heap.size A7 d7 D.jobs:=by rw[←hu2];exact((oJ.far (p:=⟨B,6,none⟩) (by show B<_;omega) _).far (p:=⟨B,7,none⟩) (by show B<_;omega) _).far (p:=⟨B,8,none⟩) (by show B<_;omega) _
 have Bu2:Below base w u2:=by rw[←hu2];exact((((BX.mono hbw).trans (hb1.mono hbX)).setCell (p:=⟨B,6,none⟩) hlow _).setCell (p:=⟨B,7,none⟩) hlow _).setCell (p:=⟨B,8,none⟩) hlow _
 clear hu2;obtain⟨W2,hW2⟩:∃ V,setN u2 (w.heap.size+1) 0 (zkj jw js_ jf e0 e1 e2 e3 e4 e5 e6 e7)=V:=⟨_,rfl⟩;have hW2n:=zs11 hW2;have K3:WkAt W2 base B ⟨a0,c0,a1,c1,a2,c2,a3,c3,a4,c4,A6,d6,A7,d7,a7,c7⟩ { s with dk:=D }:=by rw[←hW2];exact K2.farJ kJ2 _ ((oJ2.farN hXs _).base_ hbX)
 have kJ3:=zsw hW2 kJ2;have kD3:Blk W2 w.heap.size 55 (zkn false 0 0 0 0 0 0 0 0 0 0 0).toArray:=by rw[←hW2];exact kD2.kept (grown_setN _ _ _ _) (by simp)
 have B2:=zbw hW2 Bu2 (by omega);have HK3:=Lib.hid K3;have kB2:Blk W2 B 87 #[.int .i64 s.cap,.slice a0 s.sl.refs.length c0,.slice a1 s.sl.busy.length c1,.slice a2 s.wr.length c2,.slice a3 s.rd.length c3,.slice a4 s.desc.length c4,.slice A6 D.cells.length d6,.slice A7 D.jobs.length d7,.int .i64 D.room,.int .i64 s.po.size,.slice a7 s.po.free.length c7]:=K3.blk;rw[hW2n];clear hW2n hW2 K2 kJ2 kD2 oJ2 Bu2 K3 q6 q7 q8 qf6 qf7 qf8 y0 yf0 y1 yf1 y2 yf2 y3 yf3 y4 yf4 y5 yf5 y6 yf6 y7 yf7 y8 yf8 y9 yf9 y10 yf10 kB1 kJ1 kD1 zB1 zJ1 oC oJ;have hb2s:base≤W2.heap.size:=by have:=B2.size;omega
 have hW2s:w.heap.size+1<W2.heap.size:=kJ3.lt;obtain⟨g,rfl,hg,gl,gc,_,hc0⟩:=intE_at HK3.out.own.o4 HX.out
 have hD:∀ V,Below W2.heap.size W2 V→_:=fun V hV=>pGive_any a7 c7 s.po dd V (HK3.out.own.o7.sr.ext hV) HF.out.f7
 rw[H2.out] at hD;have HD:=Lib.hid hD;clear hD;go_wp2_with fail;refine zrg [0,0,0,0,0,1,0,0,0,0,1,0,0,1,2,0,0,0,0,0,0,3,0] [[],[],[],[],[],[],[],[],[],[],[],[],[],[],[],[14],[15],[15],[],[],[],[],[17]] [.is ?_,.is ?_,.is ?_,.is ?_,.is ?_,.kn ?_,.is ?_,.is ?_,.is ?_,.is ?_,.kn ?_,.is ?_,.is ?_,.kn ?_,.has (PoF P),.fn [14] fst_,.fn [15] (fun l=>tupAt (fst_ l) 0),.fn [15] (fun l=>tupAt (fst_ l) 1),.is ?_,.is ?_,.is ?_,.late,.fn [17] fst_] [21] (lts_is (lts_is (lts_is (lts_is (lts_is (lts_kn (lts_is (lts_is (lts_is (lts_is (lts_kn (lts_is (lts_is (lts_kn (lts_has (PoF.lasts P) (lts_fn (lts_fn (lts_fn (lts_is (lts_is (lts_is (lts_late (lts_fn lts_nil))))))))))))))))))))))) (fun W0 hb0 hz0 => ?_)
 rotate_left 17
 have kW:=kB2.below_ hb0 kB2.lt;have zW:=kW.lt;have pg:=cell_keep hb0 gc gl;have zG0:g<W0.heap.size:=Nat.lt_of_lt_of_le gl hb0.size;have p5:=zc kW 5;have p9:=zc kW 9;have p10:=zc kW 10;refine zqp ?_;refine zqp ?_;refine zqp ?_;refine zqp ?_;refine zqp ?_;refine zqT (fun w hbw hd => ?_) ?_
 ·have r9:=cell_keep hbw p9 zW
  have r10:=cell_keep hbw p10 zW;exact zgs
 refine zqp ?_;refine zqp ?_;refine zqp ?_;refine zqp ?_;refine zqT (fun w hbw hd => ?_) ?_
 ·have r5:=cell_keep hbw p5 zW
  exact zgs
 refine zqp ?_;refine zqp ?_;refine zqT (fun w hbw hd => ?_) ?_
 ·have r1:=cell_keep hbw pg zG0
  exact zgs
 refine zqh (fun w hbw hd K Q' hK => ?_) (fun vgi14 => ?_)
 ·clear hd
  go_simp;refine (HD.out _ (hb0.trans (hbw.mono hb0.size))).mono ?_;rintro e y ⟨A8,d8,rfl,ho,hy⟩;go_wp2_with fail;exact hK.out (.tuple #[poV A8 d8 P,.int .i64 0]) _ _ zpt zbm ⟨A8,d8,rfl,ho⟩
 refine zqf (vgi14) ?_;refine zqF (tupAt (vgi14) 0) (fun w0 hd w => ?_) ?_
 ·obtain⟨_,_,A8,d8,rfl,_⟩:∃ lo hi,PoF P vgi14 lo hi w0:=hd 14 _ _ (by kernel_rfl) rfl rfl
  exact zsr
 refine zqF (tupAt (vgi14) 1) (fun w0 hd w => ?_) ?_
 ·obtain⟨_,_,A8,d8,rfl,_⟩:∃ lo hi,PoF P vgi14 lo hi w0:=hd 14 _ _ (by kernel_rfl) rfl rfl
  exact zsr
 refine zqp ?_;refine zqp ?_;refine zqp ?_;refine zql ?_;refine zqf (tupAt (vgi14) 1) ?_;refine chn_end (fun wz lo hi hbz hd hR => ?_);obtain⟨A8,d8,rfl,oP⟩:PoF P vgi14 (lo 14) (hi 14) wz:=hd 14 _ _ rfl rfl;have r9:=(hR.2 14 _ rfl).1;have hsz:=hb0.size;have BZ:Below W2.heap.size W2 wz:=hb0.trans (hbz.mono hsz);have kBz:=kB2.below_ BZ kB2.lt;have zBz:=kBz.lt;clear hd hR p5 p9 p10 pg;obtain⟨-,-,-,-,-,-,-,-,-,m9,m10⟩:=zc11 kBz;obtain⟨-,-,-,-,-,-,-,-,-,mf9,mf10,-⟩:=zf kBz;unfold poV;simp only[tupAt,List.getD_cons_succ,List.getD_cons_zero,Array.getD_eq_getD_getElem?,zy5,zy6,zy7,Option.getD_some];refine late_one (by simp only[zy5,zy6,zy7];rfl) (fun K Q' hK => ?_);go_simp;refine hK.out _ ?_;clear hK K Q';obtain⟨W3,hW3⟩:∃ V,(wz.setCell ⟨B,9,none⟩ (.int .i64 P.size)).setCell ⟨B,10,none⟩ (.slice A8 P.free.length d8)=V:=⟨_,rfl⟩;have K4:WkAt W3 base B ⟨a0,c0,a1,c1,a2,c2,a3,c3,some ⟨g,0,none⟩,c4,A6,d6,A7,d7,A8,d8⟩ { s with dk:=D,po:=P }:=by rw[←hW3];exact HK3.out.pool BZ (oP.base_ (by omega))
 have kJ4:Blk W3 (w.heap.size+1) 115 (zkj jw js_ jf e0 e1 e2 e3 e4 e5 e6 e7).toArray:=by rw[←hW3];exact((kJ3.below_ BZ kJ3.lt).far_ (p:=⟨B,9,none⟩) (by show _≠B;omega) _).far_ (p:=⟨B,10,none⟩) (by show _≠B;omega) _
 have kD4:Blk W3 w.heap.size 55 (zkn false 0 0 0 0 0 0 0 0 0 0 0).toArray:=by rw[←hW3];exact((kD3.below_ BZ kD3.lt).far_ (p:=⟨B,9,none⟩) (by show _≠B;omega) _).far_ (p:=⟨B,10,none⟩) (by show _≠B;omega) _
 have B3:Below base w W3:=by rw[←hW3];exact((B2.trans (BZ.mono hb2s)).setCell (p:=⟨B,9,none⟩) hlow _).setCell (p:=⟨B,10,none⟩) hlow _
 have HK4:=Lib.hid K4;have kB3:Blk W3 B 87 #[.int .i64 s.cap,.slice a0 s.sl.refs.length c0,.slice a1 s.sl.busy.length c1,.slice a2 s.wr.length c2,.slice a3 s.rd.length c3,.slice (some ⟨g,0,none⟩) s.desc.length c4,.slice A6 D.cells.length d6,.slice A7 D.jobs.length d7,.int .i64 D.room,.int .i64 P.size,.slice A8 P.free.length d8]:=K4.blk;rw[hW3];clear hW3 K4 m9 m10 mf9 mf10 kBz zBz r9 oP;have zB3:=kB3.lt;have hb3s:base≤W3.heap.size:=by have:=B3.size;omega
 obtain⟨g',eg,_,gl3,_,hO4,_⟩:=intE_at HK4.out.own.o4 HX.out;obtain rfl:g=g':=by injection eg with eg;injection eg
 have HDL:=Lib.hid (DelI_any g c4 base s.desc n W3 hO4 hn f4);obtain⟨-,-,-,-,-,u5,-⟩:=zc11 kB3;clear eg hO4 gc gl;go_wp2_with fail;refine HDL.out.mono ?_;rintro ee4 w4 ⟨rfl,hO,hgr,hs4⟩;have hk4:=KeptE.of_grown (c:=c4) hgr hc0;have Bg:Below base W3 w4:=(Below.refl base W3).grown hgr hb3s (fun r er=>by cases er;exact hg);have kB4:=hk4.blk kB3 (HK4.out.own.o4.notT HK4.out.blk (by decide));have kJ5:=hk4.blk kJ4 (HK4.out.own.o4.notT kJ4 (by decide));have kD5:=hk4.blk kD4 (HK4.out.own.o4.notT kD4 (by decide));have zB4:=kB4.lt;have hel:(s.desc.eraseIdx n).length=s.desc.length - 1:=by rw[List.length_eraseIdx];simp[hn]
 have hO5:OwnE intE w4 base (some ⟨g,0,none⟩) c4 (s.desc.eraseIdx n):=by
  have:OwnR intE w4 base (.slice (some ⟨g,0,none⟩) (s.desc.eraseIdx n).length c4) (s.desc.eraseIdx n):=by rw[hel];exact hO
  exact⟨.inr this,.inr this⟩
 have K5:=HK4.out.desc Bg hk4 (.inl ⟨rfl,hc0⟩) hO5;rw[hel] at K5;clear hel u5 hO;have u5:=zc kB4 5;have uf5:=kB4.frozen_ 5;go_upto_region 9 with fail;obtain⟨W5,hW5⟩:∃ V,w4.setCell ⟨B,5,none⟩ (.slice (some ⟨g,0,none⟩) (s.desc.length - 1) c4)=V:=⟨_,rfl⟩;rw[hW5] at K5;have kJ6:Blk W5 (w.heap.size+1) 115 (zkj jw js_ jf e0 e1 e2 e3 e4 e5 e6 e7).toArray:=by rw[←hW5];exact kJ5.far_ (p:=⟨B,5,none⟩) (by show _≠B;omega) _
 have kD6:Blk W5 w.heap.size 55 (zkn false 0 0 0 0 0 0 0 0 0 0 0).toArray:=by rw[←hW5];exact kD5.far_ (p:=⟨B,5,none⟩) (by show _≠B;omega) _
 have B5:Below base w W5:=by rw[←hW5];exact(B3.trans Bg).setCell (p:=⟨B,5,none⟩) hlow _
 rw[hW5];clear hW5 u5 uf5 kB4 kJ5 kD5 zB4 zB3 kB3 hO5;have hEN:=Lib.hid (end_any base B _ _ ⟨jw,js_,jf,⟨e0,e1,e2,e3,e4,e5,e6,e7⟩⟩ W5 K5 (wr':=wr') (rd':=rd') (pr:=pr) f2 f3 H3.out);have zJ6:=kJ6.lt;obtain⟨y0,y1,y2,y3,y4,y5,y6,y7,y8,y9,y10⟩:=zc11 kJ6;clear K5;go_wp2_with fail;refine hEN.out.mono ?_;rintro ee6 w6 ⟨rfl,⟨⟨b0,k0,b1,k1,b2,k2,b3,k3,b4,k4,b5,k5,b6,k6,b7,k7⟩,K6⟩,Bn6,hkt⟩;have hb5s:base≤W5.heap.size:=by have:=B5.size;omega
 have B6:Below base w w6:=B5.trans Bn6;have kJ7:=hkt _ _ _ kJ6 (by decide) (by decide);have kD7:=hkt _ _ _ kD6 (by decide) (by decide);have HK6:=Lib.hid K6;have kB6:Blk w6 B 87 #[.int .i64 s.cap,.slice b0 s.sl.refs.length k0,.slice b1 s.sl.busy.length k1,.slice b2 wr'.length k2,.slice b3 rd'.length k3,.slice b4 (s.desc.eraseIdx n).length k4,.slice b5 D.cells.length k5,.slice b6 D.jobs.length k6,.int .i64 D.room,.int .i64 P.size,.slice b7 P.free.length k7]:=K6.blk;clear y0 y1 y2 y3 y4 y5 y6 y7 y8 y9 y10 zJ6 K6 kJ6 kD6 Bn6 hkt
 have hT1:∀ V,Below w6.heap.size w6 V→_:=fun V hV=>sSettle_any b0 b1 k0 k1 s.sl js_ V (HK6.out.own.o0.sr.ext hV) (HK6.out.own.o1.sr.ext hV) f0 f1
 rw[H4.out] at hT1;have HT1:=Lib.hid hT1;clear hT1;go_wp2_with fail;refine zrg [0,0,0,0,0,1,0,1,2,0,0,0,0,0,0,0,3,0] [[],[],[],[],[],[],[],[],[],[8],[9],[9],[9],[],[],[],[],[12]] [.is ?_,.is ?_,.is ?_,.is ?_,.is ?_,.kn ?_,.is ?_,.kn ?_,.has (StF T1 [.bool bb,.int .i64 0]),.fn [8] fst_,.fn [9] (fun l=>tupAt (fst_ l) 0),.fn [9] (fun l=>tupAt (fst_ l) 1),.fn [9] (fun l=>tupAt (fst_ l) 2),.is ?_,.is ?_,.is ?_,.late,.fn [12] fst_] [16] (lts_is (lts_is (lts_is (lts_is (lts_is (lts_kn (lts_is (lts_kn (lts_has (StF.lasts T1 [.bool bb,.int .i64 0]) (lts_fn (lts_fn (lts_fn (lts_fn (lts_is (lts_is (lts_is (lts_late (lts_fn lts_nil)))))))))))))))))) (fun W0 hb0 hz0 => ?_)
 rotate_left 11
 have kW:=kB6.below_ hb0 kB6.lt;have kJ0:=kJ7.below_ hb0 kJ7.lt;have zW:=kW.lt;have zJ:=kJ0.lt;obtain⟨-,p1,p2,-⟩:=zc11 kW;have pj:=zc kJ0 1;refine zqp ?_;refine zqp ?_;refine zqp ?_;refine zqp ?_;refine zqp ?_;refine zqT (fun w hbw hd => ?_) ?_
 ·have r1:=cell_keep hbw p1 zW
  have r2:=cell_keep hbw p2 zW;exact zgs
 refine zqp ?_;refine zqT (fun w hbw hd => ?_) ?_
 ·have r3:=cell_keep hbw pj zJ
  exact zgs
 refine zqh (fun w hbw hd K Q' hK => ?_) (fun vst8 => ?_)
 ·clear hd
  go_simp;refine (HT1.out _ (hb0.trans (hbw.mono hb0.size))).mono ?_;rintro e y ⟨A1,d1,A2_,d2,rfl,oI,oB,hy⟩;go_wp2_with fail;exact hK.out (.tuple #[stV A1 d1 A2_ d2 T1,.bool bb,.int .i64 0]) _ _ zpt zbm ⟨A1,d1,A2_,d2,rfl,oI,oB⟩
 refine zqf (vst8) ?_;refine zqF (tupAt (vst8) 0) (fun w0 hd w => ?_) ?_
 ·obtain⟨_,_,A1,d1,A2_,d2,rfl,_⟩:∃ lo hi,StF T1 [.bool bb,.int .i64 0] vst8 lo hi w0:=hd 8 _ _ (by kernel_rfl) rfl rfl
  exact zsr
 refine zqF (tupAt (vst8) 1) (fun w0 hd w => ?_) ?_
 ·obtain⟨_,_,A1,d1,A2_,d2,rfl,_⟩:∃ lo hi,StF T1 [.bool bb,.int .i64 0] vst8 lo hi w0:=hd 8 _ _ (by kernel_rfl) rfl rfl
  exact zsr
 refine zqF (tupAt (vst8) 2) (fun w0 hd w => ?_) ?_
 ·obtain⟨_,_,A1,d1,A2_,d2,rfl,_⟩:∃ lo hi,StF T1 [.bool bb,.int .i64 0] vst8 lo hi w0:=hd 8 _ _ (by kernel_rfl) rfl rfl
  exact zsr
 refine zqp ?_;refine zqp ?_;refine zqp ?_;refine zql ?_;refine zqf (tupAt (vst8) 2) ?_;refine chn_end (fun wz lo hi hbz hd hR => ?_);obtain⟨A1,d1,A2_,d2,rfl,oI,oB⟩:StF T1 [.bool bb,.int .i64 0] vst8 (lo 8) (hi 8) wz:=hd 8 _ _ rfl rfl;have r9:=(hR.2 8 _ rfl).1;have hsz:=hb0.size;have BZ:Below w6.heap.size w6 wz:=hb0.trans (hbz.mono hsz);have kBz:=kB6.below_ BZ kB6.lt;have zBz:=kBz.lt;clear hd hR p1 p2 pj;obtain⟨-,m1,m2,-⟩:=zc11 kBz;obtain⟨-,mf1,mf2,-⟩:=zf kBz;unfold stV;simp only[tupAt,List.getD_cons_succ,List.getD_cons_zero,Array.getD_eq_getD_getElem?,zy5,zy6,zy7,Option.getD_some];refine late_one (by simp only[zy5,zy6,zy7];rfl) (fun K Q' hK => ?_);go_simp;refine hK.out _ ?_;clear hK K Q';obtain⟨W7,hW7⟩:∃ V,(wz.setCell ⟨B,1,none⟩ (.slice A1 T1.refs.length d1)).setCell ⟨B,2,none⟩ (.slice A2_ T1.busy.length d2)=V:=⟨_,rfl⟩;have K7:WkAt W7 base B ⟨A1,d1,A2_,d2,b2,k2,b3,k3,b4,k4,b5,k5,b6,k6,b7,k7⟩ { s with dk:=D,po:=P,desc:=s.desc.eraseIdx n,wr:=wr',rd:=rd',sl:=T1 }:=by rw[←hW7];exact HK6.out.slots BZ (oI.base_ (by omega)) (oB.base_ (by omega))
 have kJ7:Blk W7 (w.heap.size+1) 115 (zkj jw js_ jf e0 e1 e2 e3 e4 e5 e6 e7).toArray:=by rw[←hW7];exact((kJ7.below_ BZ kJ7.lt).far_ (p:=⟨B,1,none⟩) (by show _≠B;omega) _).far_ (p:=⟨B,2,none⟩) (by show _≠B;omega) _
 have kD7:Blk W7 w.heap.size 55 (zkn false 0 0 0 0 0 0 0 0 0 0 0).toArray:=by rw[←hW7];exact((kD7.below_ BZ kD7.lt).far_ (p:=⟨B,1,none⟩) (by show _≠B;omega) _).far_ (p:=⟨B,2,none⟩) (by show _≠B;omega) _
 have B7:Below base w W7:=by rw[←hW7];exact((B6.trans (BZ.mono (by have:=B6.size;omega))).setCell (p:=⟨B,1,none⟩) hlow _).setCell (p:=⟨B,2,none⟩) hlow _
 have HK7:=Lib.hid K7;have kB7:=K7.blk;rw[hW7];clear hW7 K7 m1 m2 mf1 mf2 kBz zBz r9 oI oB
 by_cases p0:pr=0
 ·have p0b:(pr != 0)=false:=by simpa using p0
  obtain rfl:=H6.out p0;clear p0;have zKJ:=kJ7.lt;have zKD:=kD7.lt;obtain⟨a0,a1,a2,a3,a4,a5,a6,a7,a8,a9,a10⟩:=zc11 kJ7;obtain⟨dz0,dz1,dz2,dz3,dz4,dz5,dz6,dz7,dz8,dz9,dz10,dz11⟩:=zc12 kD7;obtain⟨dzf0,dzf1,dzf2,dzf3,dzf4,dzf5,dzf6,dzf7,dzf8,dzf9,dzf10,dzf11⟩:=zf kD7;go_wp2_with fail;obtain⟨Z,hZ⟩:∃ Z,setN W7 w.heap.size 0 (zkn jw js_ jf pr e0 e1 e2 e3 e4 e5 e6 e7)=Z:=⟨_,rfl⟩;have hZn:=zs12 hZ;have kZ:=zsw hZ kD7;have KZ:WkAt Z base B ⟨A1,d1,A2_,d2,b2,k2,b3,k3,b4,k4,b5,k5,b6,k6,b7,k7⟩ ⟨s.cap,T2,wr',rd',s.desc.eraseIdx n,D,P⟩:=by rw[←hZ];exact HK7.out.farD kD7 _
  have BZZ:=zbw hZ B7 hbw;have HKZ:=Lib.hid KZ;rw[hZn];clear hZn hZ KZ dz0 dzf0 dz1 dzf1 dz2 dzf2 dz3 dzf3 dz4 dzf4 dz5 dzf5 dz6 dzf6 dz7 dzf7 dz8 dzf8 dz9 dzf9 dz10 dzf10 dz11 dzf11;refine bodyPost_ret (by simp[results,Tryz.results79,go_sem,zc12 kZ] <;> rfl) rfl ?_;exact⟨rfl,⟨⟨A1,d1,A2_,d2,b2,k2,b3,k3,b4,k4,b5,k5,b6,k6,b7,k7⟩,HKZ.out⟩,BZZ⟩
 ·have p0b:(pr != 0)=true:=by simpa using p0
  have hU:=H5.out p0;clear p0
  have hT2:∀ V,Below W7.heap.size W7 V→_:=fun V hV=>sUnref_any A1 A2_ d1 d2 T1 js_ V (HK7.out.own.o0.sr.ext hV) (HK7.out.own.o1.sr.ext hV) hl1 hl2
  rw[hU] at hT2;have HT2:=Lib.hid hT2;clear hT2 hU;have kB8:Blk W7 B 87 #[.int .i64 s.cap,.slice A1 T1.refs.length d1,.slice A2_ T1.busy.length d2,.slice b2 wr'.length k2,.slice b3 rd'.length k3,.slice b4 (s.desc.eraseIdx n).length k4,.slice b5 D.cells.length k5,.slice b6 D.jobs.length k6,.int .i64 D.room,.int .i64 P.size,.slice b7 P.free.length k7]:=HK7.out.blk;go_wp2_with fail;refine zrg [0,0,0,0,0,1,0,1,2,0,0,0,0,0,0,0,3,0] [[],[],[],[],[],[],[],[],[],[8],[9],[9],[9],[],[],[],[],[12]] [.is ?_,.is ?_,.is ?_,.is ?_,.is ?_,.kn ?_,.is ?_,.kn ?_,.has (StF T2 [.bool bu,.int .i64 0]),.fn [8] fst_,.fn [9] (fun l=>tupAt (fst_ l) 0),.fn [9] (fun l=>tupAt (fst_ l) 1),.fn [9] (fun l=>tupAt (fst_ l) 2),.is ?_,.is ?_,.is ?_,.late,.fn [12] fst_] [16] (lts_is (lts_is (lts_is (lts_is (lts_is (lts_kn (lts_is (lts_kn (lts_has (StF.lasts T2 [.bool bu,.int .i64 0]) (lts_fn (lts_fn (lts_fn (lts_fn (lts_is (lts_is (lts_is (lts_late (lts_fn lts_nil)))))))))))))))))) (fun W0 hb0 hz0 => ?_)
  rotate_left 11
  have kW:=kB8.below_ hb0 kB8.lt;have kJ0:=kJ7.below_ hb0 kJ7.lt;have zW:=kW.lt;have zJ:=kJ0.lt;obtain⟨-,p1,p2,-⟩:=zc11 kW;obtain⟨-,pj,-⟩:=zc11 kJ0;refine zqp ?_;refine zqp ?_;refine zqp ?_;refine zqp ?_;refine zqp ?_;refine zqT (fun w hbw hd => ?_) ?_
  ·have r1:=cell_keep hbw p1 zW
   have r2:=cell_keep hbw p2 zW;exact zgs
  refine zqp ?_;refine zqT (fun w hbw hd => ?_) ?_
  ·have r3:=cell_keep hbw pj zJ
   exact zgs
  refine zqh (fun w hbw hd K Q' hK => ?_) (fun vsu8 => ?_)
  ·clear hd
   go_simp;refine (HT2.out _ (hb0.trans (hbw.mono hb0.size))).mono ?_;rintro e y ⟨C1,x1,C2,x2,rfl,oI,oB,hy⟩;go_wp2_with fail;exact hK.out (.tuple #[stV C1 x1 C2 x2 T2,.bool bu,.int .i64 0]) _ _ zpt zbm ⟨C1,x1,C2,x2,rfl,oI,oB⟩
  refine zqf (vsu8) ?_;refine zqF (tupAt (vsu8) 0) (fun w0 hd w => ?_) ?_
  ·obtain⟨_,_,C1,x1,C2,x2,rfl,_⟩:∃ lo hi,StF T2 [.bool bu,.int .i64 0] vsu8 lo hi w0:=hd 8 _ _ (by kernel_rfl) rfl rfl
   exact zsr
  refine zqF (tupAt (vsu8) 1) (fun w0 hd w => ?_) ?_
  ·obtain⟨_,_,C1,x1,C2,x2,rfl,_⟩:∃ lo hi,StF T2 [.bool bu,.int .i64 0] vsu8 lo hi w0:=hd 8 _ _ (by kernel_rfl) rfl rfl
   exact zsr
  refine zqF (tupAt (vsu8) 2) (fun w0 hd w => ?_) ?_
  ·obtain⟨_,_,C1,x1,C2,x2,rfl,_⟩:∃ lo hi,StF T2 [.bool bu,.int .i64 0] vsu8 lo hi w0:=hd 8 _ _ (by kernel_rfl) rfl rfl
   exact zsr
  refine zqp ?_;refine zqp ?_;refine zqp ?_;refine zql ?_;refine zqf (tupAt (vsu8) 2) ?_;refine chn_end (fun wz lo hi hbz hd hR => ?_);obtain⟨C1,x1,C2,x2,rfl,oI,oB⟩:StF T2 [.bool bu,.int .i64 0] vsu8 (lo 8) (hi 8) wz:=hd 8 _ _ rfl rfl;have r9:=(hR.2 8 _ rfl).1;have hsz:=hb0.size;have BZ:Below W7.heap.size W7 wz:=hb0.trans (hbz.mono hsz);have kBz:=kB8.below_ BZ kB8.lt;have zBz:=kBz.lt;clear hd hR p1 p2 pj;obtain⟨-,m1,m2,-⟩:=zc11 kBz;obtain⟨-,mf1,mf2,-⟩:=zf kBz;unfold stV;simp only[tupAt,List.getD_cons_succ,List.getD_cons_zero,Array.getD_eq_getD_getElem?,zy5,zy6,zy7,Option.getD_some];refine late_one (by simp only[zy5,zy6,zy7];rfl) (fun K Q' hK => ?_);go_simp;refine hK.out _ ?_;clear hK K Q';obtain⟨W8,hW8⟩:∃ V,(wz.setCell ⟨B,1,none⟩ (.slice C1 T2.refs.length x1)).setCell ⟨B,2,none⟩ (.slice C2 T2.busy.length x2)=V:=⟨_,rfl⟩;have K8:WkAt W8 base B ⟨C1,x1,C2,x2,b2,k2,b3,k3,b4,k4,b5,k5,b6,k6,b7,k7⟩ { s with dk:=D,po:=P,desc:=s.desc.eraseIdx n,wr:=wr',rd:=rd',sl:=T2 }:=by rw[←hW8];exact HK7.out.slots BZ (oI.base_ (by omega)) (oB.base_ (by omega))
  have kJ8:Blk W8 (w.heap.size+1) 115 (zkj jw js_ jf e0 e1 e2 e3 e4 e5 e6 e7).toArray:=by rw[←hW8];exact((kJ7.below_ BZ kJ7.lt).far_ (p:=⟨B,1,none⟩) (by show _≠B;omega) _).far_ (p:=⟨B,2,none⟩) (by show _≠B;omega) _
  have kD8:Blk W8 w.heap.size 55 (zkn false 0 0 0 0 0 0 0 0 0 0 0).toArray:=by rw[←hW8];exact((kD7.below_ BZ kD7.lt).far_ (p:=⟨B,1,none⟩) (by show _≠B;omega) _).far_ (p:=⟨B,2,none⟩) (by show _≠B;omega) _
  have B8:Below base w W8:=by rw[←hW8];exact((B7.trans (BZ.mono (by have:=B7.size;omega))).setCell (p:=⟨B,1,none⟩) hlow _).setCell (p:=⟨B,2,none⟩) hlow _
  have HK8:=Lib.hid K8;have kB8:=K8.blk;rw[hW8];clear hW8 K8 m1 m2 mf1 mf2 kBz zBz r9 oI oB;have zKJ:=kJ8.lt;have zKD:=kD8.lt;obtain⟨a0,a1,a2,a3,a4,a5,a6,a7,a8,a9,a10⟩:=zc11 kJ8;obtain⟨dz0,dz1,dz2,dz3,dz4,dz5,dz6,dz7,dz8,dz9,dz10,dz11⟩:=zc12 kD8;obtain⟨dzf0,dzf1,dzf2,dzf3,dzf4,dzf5,dzf6,dzf7,dzf8,dzf9,dzf10,dzf11⟩:=zf kD8;go_wp2_with fail;obtain⟨Z,hZ⟩:∃ Z,setN W8 w.heap.size 0 (zkn jw js_ jf pr e0 e1 e2 e3 e4 e5 e6 e7)=Z:=⟨_,rfl⟩;have hZn:=zs12 hZ;have kZ:=zsw hZ kD8;have KZ:WkAt Z base B ⟨C1,x1,C2,x2,b2,k2,b3,k3,b4,k4,b5,k5,b6,k6,b7,k7⟩ ⟨s.cap,T2,wr',rd',s.desc.eraseIdx n,D,P⟩:=by rw[←hZ];exact HK8.out.farD kD8 _
  have BZZ:=zbw hZ B8 hbw;have HKZ:=Lib.hid KZ;rw[hZn];clear hZn hZ KZ dz0 dzf0 dz1 dzf1 dz2 dzf2 dz3 dzf3 dz4 dzf4 dz5 dzf5 dz6 dzf6 dz7 dzf7 dz8 dzf8 dz9 dzf9 dz10 dzf10 dz11 dzf11;refine bodyPost_ret (by simp[results,Tryz.results79,go_sem,zc12 kZ] <;> rfl) rfl ?_;exact⟨rfl,⟨⟨C1,x1,C2,x2,b2,k2,b3,k3,b4,k4,b5,k5,b6,k6,b7,k7⟩,HKZ.out⟩,BZZ⟩
def dnC(d:Dn):List Value:=.bool d.job.wr::.int .i64 d.job.slot::.int .i64 d.job.frame::.int .i64 d.proc::ctC d.job.data
def dnV(d:Dn):Value:=.agg (dnC d).toArray
def CpPost(R:Swp × Dn × Int)(w:World)(e:Ending)(w':World):Prop:=∃ L,e=.returned (.tuple #[swV L R.1,dnV R.2.1,.int .i64 R.2.2])∧SwO w' w.heap.size L R.1∧Below w.heap.size w w'
theorem cmp_args{s:Swp}(h:OkS s){k:Nat}{j:Jb}(hj:s.dk.jobs[k]? = some j):∃ (D:Dsk) (P:Pol) (T1 T2:Sts) (dd:Int) (bb bu:Bool),s.desc[k]? = some dd∧cmpD s.dk k=(D,dnJ s.dk j,0)∧gvP s.po dd=(P,0)∧EndW s (dnJ s.dk j) (outW s.wr j.slot) (outW s.rd j.slot) (prcW s j) ∧
  setT s.sl (dnJ s.dk j).slot=(T1,bb,0)∧T1.refs.length=s.sl.refs.length∧T1.busy.length=s.sl.busy.length∧(prcW s j≠0→unrT T1 (dnJ s.dk j).slot=(T2,bu,0))∧(prcW s j=0→T2=T1)∧dnS s k j=⟨s.cap,T2,outW s.wr j.slot,outW s.rd j.slot,s.desc.eraseIdx k,D,P⟩:=by
 have hk:=(List.getElem?_eq_some_iff.1 hj).1;have hj':s.dk.jobs[(k:Int).toNat]? = some j:=by rw[Int.toNat_natCast];exact hj
 obtain⟨p1,p2,p3,p4,p5,p6,p7,p8,p9,p10⟩:=cmp_parts h (n:=k) (by omega) hj';rw[Int.toNat_natCast] at p4;obtain⟨d1,d2,d3⟩:=dnJ_wr s.dk j;obtain⟨dd,hdd⟩:∃ d,s.desc[k]? = some d:=⟨_,List.getElem?_eq_getElem (by have:=h.dlen;omega)⟩;have hg:s.desc.getD k 0=dd:=by rw[List.getD_eq_getElem?_getD,hdd];rfl
 rw[hg] at p4;have hgv:=gvP_ok h.po p4;have hcm:=(cmpD_ok h.dk (n:=k) (by omega) hj').1;obtain⟨⟨T1,bb,e1⟩,hT1⟩:∃ t,setT s.sl j.slot=t:=⟨_,rfl⟩;obtain⟨⟨P,e2⟩,hP⟩:∃ t,gvP s.po dd=t:=⟨_,rfl⟩;rw[hT1] at p5 p6;rw[hP] at hgv;dsimp only at p5 p6 hgv;subst p6;have e20:=hgv.1;subst e20
 have hend:EndW s (dnJ s.dk j) (outW s.wr j.slot) (outW s.rd j.slot) (prcW s j):=by
  unfold EndW;rw[d1,d2];refine⟨fun hw => ?_,fun hw => ?_⟩
  ·obtain⟨q1,v,_,_,q2,q3⟩:=p9 hw
   exact⟨v,q2,q3,q1⟩
  ·obtain⟨q1,i,v,q2,q3,q4,q5⟩:=p10 hw
   exact⟨i,v,q2,q3,q4,q5,q1⟩
 by_cases hp:prcW s j=0
 ·refine⟨_,P,T1,T1,dd,bb,false,hdd,hcm,hP,hend,by rw[d2];exact hT1,by rw[p5];simp[witT],by rw[p5];simp[witT],fun h=>absurd hp h,fun _=>rfl,?_⟩
  unfold dnS;rw[if_pos hp,Int.toNat_natCast,hg,hP,p5]
 ·obtain⟨q1,q2⟩:=p8 hp
  obtain⟨⟨T2,bu,e3⟩,hT2⟩:∃ t,unrT T1 j.slot=t:=⟨_,rfl⟩;rw[←p5,hT2] at q1 q2;dsimp only at q1 q2;subst q2;refine⟨_,P,T1,T2,dd,bb,bu,hdd,hcm,hP,hend,by rw[d2];exact hT1,by rw[p5];simp[witT],by rw[p5];simp[witT],fun _=>by rw[d2];exact hT2,fun h=>absurd h hp,?_⟩;unfold dnS;rw[if_neg hp,Int.toNat_natCast,hg,hP,q1]
theorem Complete_any(L:Lay)(s:Swp)(n:Int)(w:World)(h:SwA w L s)(hz:TZ w) :
  Calls Tryz.prog 24 #[swV L s,.int .i64 n] w (CpPost (cmpW s n) w):=by
 obtain⟨a0,c0,a1,c1,a2,c2,a3,c3,a4,c4,a5,c5,a6,c6,a7,c7⟩:=L;have HA:=Lib.hid h;have HZ:=Lib.hid hz;have HW0:0<w.heap.size:=hz.pos;obtain⟨Q,hQ⟩:∃ Q,cmpW s n=Q:=⟨_,rfl⟩;rw[hQ];have HQ:=Lib.hid hQ;clear hQ h hz;unfold swV swC;obtain⟨X,hX⟩:∃ X,((w.alloc (.cells (zkx s a0 c0 a1 c1 a2 c2 a3 c3 a4 c4 a5 c5 a6 c6 a7 c7).toArray 35)).alloc (.cells zkz.toArray 35)).alloc (.cells (zkn false 0 0 0 0 0 0 0 0 0 0 0).toArray 55)=X:=⟨_,rfl⟩;have kX:Blk X w.heap.size 35 (zkx s a0 c0 a1 c1 a2 c2 a3 c3 a4 c4 a5 c5 a6 c6 a7 c7).toArray:=by rw[←hX];exact((Blk.new_ rfl rfl).alloc_ _).alloc_ _
 have kR:Blk X (w.heap.size+1) 35 zkz.toArray:=by rw[←hX];exact(Blk.new_ (by simp) rfl:Blk _ (w.heap.size+1) _ _).alloc_ _
 have kE:Blk X (w.heap.size+2) 55 (zkn false 0 0 0 0 0 0 0 0 0 0 0).toArray:=by rw[←hX];exact Blk.new_ (by simp) rfl
 have BX:Below w.heap.size w X:=by rw[←hX];exact zbl
 obtain⟨z,hzz⟩:∃ z,chkW s=z:=⟨_,rfl⟩;have HZZ:=Lib.hid hzz;have hC:=wCheck_any ⟨a0,c0,a1,c1,a2,c2,a3,c3,a4,c4,a5,c5,a6,c6,a7,c7⟩ s X (HA.out.ext BX) (HZ.out.ext HW0 BX);rw[hzz] at hC;have HC:=Lib.hid hC;clear hC hzz;have zkX:=kX.lt;obtain⟨q0,q1,q2,q3,q4,q5,q6,q7,q8,q9,q10⟩:=zc11 kX
 go_enter Tryz.func24,Tryz.ntmps24
 go_wp2_with fail;(try rw[hX]);clear hX;refine HC.out.mono ?_;rintro e1 w1 ⟨rfl,hb1⟩;have B1:=zbt BX hb1;replace kX:=kX.below_ hb1 kX.lt;replace kR:=kR.below_ hb1 kR.lt;replace kE:=kE.below_ hb1 kE.lt;clear hb1;clear zkX q0 q1 q2 q3 q4 q5 q6 q7 q8 q9 q10
 by_cases z0:z=0
 ·subst z0
  have HOK:Hid (OkS s):=chkW_ok.1 HZZ.out
  by_cases n0:n<0
  ·/- below -/
   have HE:Hid (Q=(.zero,.zero,6)):=by show _=_;rw[←HQ.out];unfold cmpW;rw[HZZ.out,if_neg (by simp),if_pos (.inl n0)]
   have n0b:decide (n<0)=true:=by simpa using n0
   clear n0;have ztR:=kR.lt;have ztE:=kE.lt;obtain⟨t0,t1,t2,t3,t4,t5,t6,t7,t8,t9,t10⟩:=zc11 kR;obtain⟨tf0,tf1,tf2,tf3,tf4,tf5,tf6,tf7,tf8,tf9,tf10,-⟩:=zf kR;obtain⟨v0,v1,v2,v3,v4,v5,v6,v7,v8,v9,v10,v11⟩:=zc12 kE;obtain⟨vf0,vf1,vf2,vf3,vf4,vf5,vf6,vf7,vf8,vf9,vf10,vf11⟩:=zf kE;go_wp2_with fail;obtain⟨Z,hZ⟩:∃ Z,setN (setN w1 (w.heap.size+1) 0 zkz) (w.heap.size+2) 0 (zkn false 0 0 0 0 0 0 0 0 0 0 0)=Z:=⟨_,rfl⟩;have hZn:=zt hZ;have kZ1:Blk Z (w.heap.size+1) 35 zkz.toArray:=by rw[←hZ];exact(blk_setN kR _ rfl).kept (grown_setN _ _ _ _) (by simp)
   have kZ2:Blk Z (w.heap.size+2) 55 (zkn false 0 0 0 0 0 0 0 0 0 0 0).toArray:=by rw[←hZ];exact blk_setN (kE.kept (grown_setN _ _ _ _) (by simp)) _ rfl
   have bZ:Below w.heap.size w Z:=by rw[←hZ];exact below_setN (below_setN B1 (by omega) _) (by omega) _
   rw[hZn];clear hZn hZ t0 tf0 t1 tf1 t2 tf2 t3 tf3 t4 tf4 t5 tf5 t6 tf6 t7 tf7 t8 tf8 t9 tf9 t10 tf10 v0 vf0 v1 vf1 v2 vf2 v3 vf3 v4 vf4 v5 vf5 v6 vf6 v7 vf7 v8 vf8 v9 vf9 v10 vf10 v11 vf11;obtain⟨rp0,rp1,rp2,rp3,rp4,rp5,rp6,rp7,rp8,rp9,rp10⟩:=zc11 kZ1;refine bodyPost_ret (by simp[results,Tryz.results24,go_sem,rp0,rp1,rp2,rp3,rp4,rp5,rp6,rp7,rp8,rp9,rp10,zc12 kZ2] <;> rfl) rfl ?_;rw[HE.out];exact⟨.zero,rfl,SwO.zero,bZ⟩
  ·obtain⟨k,rfl⟩:∃ k:Nat,n=k:=⟨n.toNat,by omega⟩
   have zkX:=kX.lt;obtain⟨-,-,-,-,-,-,-,x7,-⟩:=zc11 kX;clear n0
   by_cases n1:s.dk.jobs.length≤k
   ·/- above -/
    have HE:Hid (Q=(.zero,.zero,6)):=by show _=_;rw[←HQ.out];unfold cmpW;rw[HZZ.out,if_neg (by simp),if_pos (.inr (by omega))]
    have n1b:decide (s.dk.jobs.length≤k)=true:=by simpa using n1
    clear n1;have ztR:=kR.lt;have ztE:=kE.lt;obtain⟨t0,t1,t2,t3,t4,t5,t6,t7,t8,t9,t10⟩:=zc11 kR;obtain⟨tf0,tf1,tf2,tf3,tf4,tf5,tf6,tf7,tf8,tf9,tf10,-⟩:=zf kR;obtain⟨v0,v1,v2,v3,v4,v5,v6,v7,v8,v9,v10,v11⟩:=zc12 kE;obtain⟨vf0,vf1,vf2,vf3,vf4,vf5,vf6,vf7,vf8,vf9,vf10,vf11⟩:=zf kE;go_wp2_with fail;obtain⟨Z,hZ⟩:∃ Z,setN (setN w1 (w.heap.size+1) 0 zkz) (w.heap.size+2) 0 (zkn false 0 0 0 0 0 0 0 0 0 0 0)=Z:=⟨_,rfl⟩;have hZn:=zt hZ;have kZ1:Blk Z (w.heap.size+1) 35 zkz.toArray:=by rw[←hZ];exact(blk_setN kR _ rfl).kept (grown_setN _ _ _ _) (by simp)
    have kZ2:Blk Z (w.heap.size+2) 55 (zkn false 0 0 0 0 0 0 0 0 0 0 0).toArray:=by rw[←hZ];exact blk_setN (kE.kept (grown_setN _ _ _ _) (by simp)) _ rfl
    have bZ:Below w.heap.size w Z:=by rw[←hZ];exact below_setN (below_setN B1 (by omega) _) (by omega) _
    rw[hZn];clear hZn hZ t0 tf0 t1 tf1 t2 tf2 t3 tf3 t4 tf4 t5 tf5 t6 tf6 t7 tf7 t8 tf8 t9 tf9 t10 tf10 v0 vf0 v1 vf1 v2 vf2 v3 vf3 v4 vf4 v5 vf5 v6 vf6 v7 vf7 v8 vf8 v9 vf9 v10 vf10 v11 vf11;obtain⟨rp0,rp1,rp2,rp3,rp4,rp5,rp6,rp7,rp8,rp9,rp10⟩:=zc11 kZ1;refine bodyPost_ret (by simp[results,Tryz.results24,go_sem,rp0,rp1,rp2,rp3,rp4,rp5,rp6,rp7,rp8,rp9,rp10,zc12 kZ2] <;> rfl) rfl ?_;rw[HE.out];exact⟨.zero,rfl,SwO.zero,bZ⟩
   ·have n1b:decide (s.dk.jobs.length≤k)=false:=by simpa using n1
    obtain⟨j,hj⟩:∃ j,s.dk.jobs[k]? = some j:=⟨_,List.getElem?_eq_getElem (by omega)⟩;have hQ2:=(cmp_ok HOK.out (n:=k) (by omega) (by rw[Int.toNat_natCast];exact hj)).1;obtain⟨D,P,T1,T2,dd,bb,bu,m1,m2,m3,m4,m5,m6,m7,m8,m9,m10⟩:=cmp_args HOK.out hj;rw[m10] at hQ2;rw[HQ.out] at hQ2;have HE:=Lib.hid hQ2;have HL:=Lib.hid (load_any ⟨a0,c0,a1,c1,a2,c2,a3,c3,a4,c4,a5,c5,a6,c6,a7,c7⟩ s w1 (HA.out.sw.ext B1) HA.out.few);clear n1 hQ2 x7 zkX;have zkX:=kX.lt;obtain⟨q0,q1,q2,q3,q4,q5,q6,q7,q8,q9,q10⟩:=zc11 kX;go_wp2_with fail;refine HL.out.mono ?_;rintro e2 w2 ⟨B,L2,rfl,K2,hb2⟩;have HKR:w.heap.size+2<w1.heap.size:=kE.lt;have hb2s:=hb2.size;have hBlow:w1.heap.size≤B:=K2.low;have hCW:=Lib.hid (complete_work w1.heap.size B L2 s k w2 K2 HA.out.few m1 m2 m3 m4 m5 (by have:=HA.out.few.f0;omega) (by have:=HA.out.few.f1;omega) m8 m9);obtain⟨pr,hpr⟩:∃ pr,prcW s j=pr:=⟨_,rfl⟩;obtain⟨JJ,hJJ⟩:∃ JJ,dnJ s.dk j=JJ:=⟨_,rfl⟩;rw[hpr,hJJ] at hCW HE;obtain⟨jw,js_,jf,⟨e0,e1,e2_,e3,e4,e5,e6,e7⟩⟩:=JJ;have B2:=zbt B1 hb2;replace kX:=kX.below_ hb2 kX.lt;replace kR:=kR.below_ hb2 kR.lt;replace kE:=kE.below_ hb2 kE.lt;clear hb2;clear zkX q0 q1 q2 q3 q4 q5 q6 q7 q8 q9 q10;clear m1 m2 m3 m4 m5 m6 m7 m8 m9 m10 K2 hpr hJJ hj;go_wp2_with fail;refine hCW.out.mono ?_;rintro e5_ W5 ⟨rfl,⟨⟨b0,k0,b1,k1,b2,k2,b3,k3,b4,k4,b5,k5,b6,k6,b7,k7⟩,K5⟩,hb5⟩;obtain⟨S5,hS5⟩:∃ S5,(⟨s.cap,T2,outW s.wr j.slot,outW s.rd j.slot,s.desc.eraseIdx k,D,P⟩:Swp)=S5:=⟨_,rfl⟩;rw[hS5] at K5 HE;have kB5:Blk W5 B 87 (zkx S5 b0 k0 b1 k1 b2 k2 b3 k3 b4 k4 b5 k5 b6 k6 b7 k7).toArray:=K5.blk;have HO4:=Lib.hid K5.own;have B5:Below w.heap.size w W5:=B2.trans (hb5.mono (by have:=B1.size;omega));replace kR:=kR.below_ hb5 (by omega);replace kE:=kE.below_ hb5 (by omega);clear K5 hS5;unfold ctC;dsimp only;go_upto_region 8 with fail;obtain⟨W6,hW6⟩:∃ V,W5.alloc (.cells (zkn jw js_ jf pr e0 e1 e2_ e3 e4 e5 e6 e7).toArray 55)=V:=⟨_,rfl⟩;have kN:=za hW6;have BA:=zab hW6;have B6:=zbt B5 BA;have kB6:=kB5.below_ BA kB5.lt;have HO5:=Lib.hid (HO4.out.ext BA);replace kR:=kR.below_ BA kR.lt;replace kE:=kE.below_ BA kE.lt;(try rw[hW6]);clear hW6 kB5 HO4;have hW6s:W5.heap.size<W6.heap.size:=kN.lt;go_wp2_with fail;obtain⟨cv,hcv⟩:∃ V,W6.drew=V:=⟨_,rfl⟩;have BD:Below W6.heap.size W6 cv:=by rw[←hcv];exact(Below.refl _ _).drew
    have kB7:=kB6.below_ BD kB6.lt;have kN7:=kN.below_ BD kN.lt;replace kR:=kR.below_ BD kR.lt;replace kE:=kE.below_ BD kE.lt;have HO6:=Lib.hid (HO5.out.ext BD);have B7:=zbt B6 BD;have hcvs:W6.heap.size≤cv.heap.size:=BD.size;have hBw5:B≠w.heap.size+1∧B≠w.heap.size+2∧W5.heap.size≠w.heap.size+1∧W5.heap.size≠w.heap.size+2:=by have:=B5.size;have:=hb5.size;have:=kB7.lt;omega
    have hSof:∀ V,Blk V B 87 (zkx S5 b0 k0 b1 k1 b2 k2 b3 k3 b4 k4 b5 k5 b6 k6 b7 k7).toArray→Blk V W5.heap.size 55 (zkn jw js_ jf pr e0 e1 e2_ e3 e4 e5 e6 e7).toArray→V.cell? ⟨B,0,none⟩=some (.int .i64 S5.cap)∧V.cell? ⟨B,1,none⟩=some (.slice b0 S5.sl.refs.length k0)∧V.cell? ⟨B,2,none⟩=some (.slice b1 S5.sl.busy.length k1)∧V.cell? ⟨B,3,none⟩=some (.slice b2 S5.wr.length k2)∧V.cell? ⟨B,4,none⟩=some (.slice b3 S5.rd.length k3)∧V.cell? ⟨B,5,none⟩=some (.slice b4 S5.desc.length k4)∧V.cell? ⟨B,6,none⟩=some (.slice b5 S5.dk.cells.length k5)∧V.cell? ⟨B,7,none⟩=some (.slice b6 S5.dk.jobs.length k6)∧V.cell? ⟨B,8,none⟩=some (.int .i64 S5.dk.room)∧V.cell? ⟨B,9,none⟩=some (.int .i64 S5.po.size)∧V.cell? ⟨B,10,none⟩=some (.slice b7 S5.po.free.length k7)∧V.cell? ⟨W5.heap.size,0,none⟩=some (.bool jw)∧V.cell? ⟨W5.heap.size,1,none⟩=some (.int .i64 js_)∧V.cell? ⟨W5.heap.size,2,none⟩=some (.int .i64 jf)∧V.cell? ⟨W5.heap.size,3,none⟩=some (.int .i64 pr)∧V.cell? ⟨W5.heap.size,4,none⟩=some (.int .u64 e0)∧V.cell? ⟨W5.heap.size,5,none⟩=some (.int .u64 e1)∧V.cell? ⟨W5.heap.size,6,none⟩=some (.int .u64 e2_)∧V.cell? ⟨W5.heap.size,7,none⟩=some (.int .u64 e3)∧V.cell? ⟨W5.heap.size,8,none⟩=some (.int .u64 e4)∧V.cell? ⟨W5.heap.size,9,none⟩=some (.int .u64 e5)∧V.cell? ⟨W5.heap.size,10,none⟩=some (.int .u64 e6)∧V.cell? ⟨W5.heap.size,11,none⟩=some (.int .u64 e7):=fun V k1 k2=>⟨by simpa using k1.cell_ 0,by simpa using k1.cell_ 1,by simpa using k1.cell_ 2,by simpa using k1.cell_ 3,by simpa using k1.cell_ 4,by simpa using k1.cell_ 5,by simpa using k1.cell_ 6,by simpa using k1.cell_ 7,by simpa using k1.cell_ 8,by simpa using k1.cell_ 9,by simpa using k1.cell_ 10,by simpa using k2.cell_ 0,by simpa using k2.cell_ 1,by simpa using k2.cell_ 2,by simpa using k2.cell_ 3,by simpa using k2.cell_ 4,by simpa using k2.cell_ 5,by simpa using k2.cell_ 6,by simpa using k2.cell_ 7,by simpa using k2.cell_ 8,by simpa using k2.cell_ 9,by simpa using k2.cell_ 10,by simpa using k2.cell_ 11⟩
    have hS:=hSof cv kB7 kN7;clear kB6 kN BD;refine wp_region_held_drew (S:=fun V=>V.cell? ⟨B,0,none⟩=some (.int .i64 S5.cap)∧V.cell? ⟨B,1,none⟩=some (.slice b0 S5.sl.refs.length k0)∧V.cell? ⟨B,2,none⟩=some (.slice b1 S5.sl.busy.length k1)∧V.cell? ⟨B,3,none⟩=some (.slice b2 S5.wr.length k2)∧V.cell? ⟨B,4,none⟩=some (.slice b3 S5.rd.length k3)∧V.cell? ⟨B,5,none⟩=some (.slice b4 S5.desc.length k4)∧V.cell? ⟨B,6,none⟩=some (.slice b5 S5.dk.cells.length k5)∧V.cell? ⟨B,7,none⟩=some (.slice b6 S5.dk.jobs.length k6)∧V.cell? ⟨B,8,none⟩=some (.int .i64 S5.dk.room)∧V.cell? ⟨B,9,none⟩=some (.int .i64 S5.po.size)∧V.cell? ⟨B,10,none⟩=some (.slice b7 S5.po.free.length k7)∧V.cell? ⟨W5.heap.size,0,none⟩=some (.bool jw)∧V.cell? ⟨W5.heap.size,1,none⟩=some (.int .i64 js_)∧V.cell? ⟨W5.heap.size,2,none⟩=some (.int .i64 jf)∧V.cell? ⟨W5.heap.size,3,none⟩=some (.int .i64 pr)∧V.cell? ⟨W5.heap.size,4,none⟩=some (.int .u64 e0)∧V.cell? ⟨W5.heap.size,5,none⟩=some (.int .u64 e1)∧V.cell? ⟨W5.heap.size,6,none⟩=some (.int .u64 e2_)∧V.cell? ⟨W5.heap.size,7,none⟩=some (.int .u64 e3)∧V.cell? ⟨W5.heap.size,8,none⟩=some (.int .u64 e4)∧V.cell? ⟨W5.heap.size,9,none⟩=some (.int .u64 e5)∧V.cell? ⟨W5.heap.size,10,none⟩=some (.int .u64 e6)∧V.cell? ⟨W5.heap.size,11,none⟩=some (.int .u64 e7)) (by kernel_rfl) ?_ (fun hHeld => ?_)
    ·(rw[hcv];exact hS)
    rw[hcv];clear hcv;refine zht 0 ?_;refine zht 1 ?_;refine zht 2 ?_;refine zht 3 ?_;refine zht 4 ?_;refine zhr 5 (fun K hK => ?_);obtain⟨t0,t1,t2,t3,t4,t5,t6,t7,t8,t9,t10⟩:=zc11 kR;obtain⟨tf0,tf1,tf2,tf3,tf4,tf5,tf6,tf7,tf8,tf9,tf10,-⟩:=zf kR;have zzkR:=kR.lt;go_simp;obtain⟨cx,hcx⟩:∃ V,setN cv (w.heap.size+1) 0 (zkx S5 b0 k0 b1 k1 b2 k2 b3 k3 b4 k4 b5 k5 b6 k6 b7 k7)=V:=⟨_,rfl⟩;rw[zs11 hcx];have hgv:cv.grownBy cx (some (w.heap.size+1)):=by rw[←hcx];exact grown_setN _ _ _ _
    replace kR:Blk cx (w.heap.size+1) 35 (zkx S5 b0 k0 b1 k1 b2 k2 b3 k3 b4 k4 b5 k5 b6 k6 b7 k7).toArray:=by rw[←hcx];exact blk_setN kR _ rfl
    replace kE:=kE.kept hgv (by simp);replace kB7:=kB7.kept hgv (by simp;omega);replace kN7:=kN7.kept hgv (by simp;omega);have oX:SwO cx w1.heap.size ⟨b0,k0,b1,k1,b2,k2,b3,k3,b4,k4,b5,k5,b6,k6,b7,k7⟩ S5:=by rw[←hcx];exact HO6.out.farN (by omega) _
    have BXX:=zbw hcx B7 (by omega);clear hcx hgv hS t0 tf0 t1 tf1 t2 tf2 t3 tf3 t4 tf4 t5 tf5 t6 tf6 t7 tf7 t8 tf8 t9 tf9 t10 tf10;have hS:=hSof cx kB7 kN7
    refine hK.out _ _ (by exact hS) fun hHeld => ?_
    clear hK K;(try simp only[Act.put,zy0,zy1,zy2]);refine zhr 6 (fun K hK => ?_);obtain⟨v0,v1,v2,v3,v4,v5,v6,v7,v8,v9,v10,v11⟩:=zc12 kE;obtain⟨vf0,vf1,vf2,vf3,vf4,vf5,vf6,vf7,vf8,vf9,vf10,vf11⟩:=zf kE;have zzkE:=kE.lt;go_simp;obtain⟨cy,hcx⟩:∃ V,setN cx (w.heap.size+2) 0 (zkn jw js_ jf pr e0 e1 e2_ e3 e4 e5 e6 e7)=V:=⟨_,rfl⟩;rw[zs12 hcx];have hgv:cx.grownBy cy (some (w.heap.size+2)):=by rw[←hcx];exact grown_setN _ _ _ _
    replace kE:Blk cy (w.heap.size+2) 55 (zkn jw js_ jf pr e0 e1 e2_ e3 e4 e5 e6 e7).toArray:=by rw[←hcx];exact blk_setN kE _ rfl
    replace kR:=kR.kept hgv (by simp);replace kB7:=kB7.kept hgv (by simp;omega);replace kN7:=kN7.kept hgv (by simp;omega);have oY:SwO cy w1.heap.size ⟨b0,k0,b1,k1,b2,k2,b3,k3,b4,k4,b5,k5,b6,k6,b7,k7⟩ S5:=by rw[←hcx];exact oX.farN HKR _
    have BY:=zbw hcx BXX (by omega);clear hcx hgv hS v0 vf0 v1 vf1 v2 vf2 v3 vf3 v4 vf4 v5 vf5 v6 vf6 v7 vf7 v8 vf8 v9 vf9 v10 vf10 v11 vf11;have hS:=hSof cy kB7 kN7
    refine hK.out _ _ (by exact hS) fun hHeld => ?_
    clear hK K;(try simp only[Act.put,zy0,zy1,zy2]);refine zht 7 ?_;refine wpAnyH_done (by kernel_rfl) ?_ _;go_wp2_with fail;obtain⟨rp0,rp1,rp2,rp3,rp4,rp5,rp6,rp7,rp8,rp9,rp10⟩:=zc11 kR;refine bodyPost_ret (by simp[results,Tryz.results24,go_sem,rp0,rp1,rp2,rp3,rp4,rp5,rp6,rp7,rp8,rp9,rp10,zc12 kE] <;> rfl) rfl ?_;rw[HE.out];exact⟨⟨b0,k0,b1,k1,b2,k2,b3,k3,b4,k4,b5,k5,b6,k6,b7,k7⟩,rfl,oY.base_ (by have:=B1.size;omega),BY⟩
 ·have HE:Hid (Q=(.zero,.zero,z)):=by show _=_;rw[←HQ.out];unfold cmpW;rw[HZZ.out,if_pos (by simpa using z0)]
  have zb:(z != 0)=true:=by simpa using z0
  clear z0;have ztR:=kR.lt;have ztE:=kE.lt;obtain⟨t0,t1,t2,t3,t4,t5,t6,t7,t8,t9,t10⟩:=zc11 kR;obtain⟨tf0,tf1,tf2,tf3,tf4,tf5,tf6,tf7,tf8,tf9,tf10,-⟩:=zf kR;obtain⟨v0,v1,v2,v3,v4,v5,v6,v7,v8,v9,v10,v11⟩:=zc12 kE;obtain⟨vf0,vf1,vf2,vf3,vf4,vf5,vf6,vf7,vf8,vf9,vf10,vf11⟩:=zf kE;go_wp2_with fail;obtain⟨Z,hZ⟩:∃ Z,setN (setN w1 (w.heap.size+1) 0 zkz) (w.heap.size+2) 0 (zkn false 0 0 0 0 0 0 0 0 0 0 0)=Z:=⟨_,rfl⟩;have hZn:=zt hZ;have kZ1:Blk Z (w.heap.size+1) 35 zkz.toArray:=by rw[←hZ];exact(blk_setN kR _ rfl).kept (grown_setN _ _ _ _) (by simp)
  have kZ2:Blk Z (w.heap.size+2) 55 (zkn false 0 0 0 0 0 0 0 0 0 0 0).toArray:=by rw[←hZ];exact blk_setN (kE.kept (grown_setN _ _ _ _) (by simp)) _ rfl
  have bZ:Below w.heap.size w Z:=by rw[←hZ];exact below_setN (below_setN B1 (by omega) _) (by omega) _
  rw[hZn];clear hZn hZ t0 tf0 t1 tf1 t2 tf2 t3 tf3 t4 tf4 t5 tf5 t6 tf6 t7 tf7 t8 tf8 t9 tf9 t10 tf10 v0 vf0 v1 vf1 v2 vf2 v3 vf3 v4 vf4 v5 vf5 v6 vf6 v7 vf7 v8 vf8 v9 vf9 v10 vf10 v11 vf11;obtain⟨rp0,rp1,rp2,rp3,rp4,rp5,rp6,rp7,rp8,rp9,rp10⟩:=zc11 kZ1;refine bodyPost_ret (by simp[results,Tryz.results24,go_sem,rp0,rp1,rp2,rp3,rp4,rp5,rp6,rp7,rp8,rp9,rp10,zc12 kZ2] <;> rfl) rfl ?_;rw[HE.out];exact⟨.zero,rfl,SwO.zero,bZ⟩
end Go.Proofs.YthijbipidbjpfaaGreatDoor
