import Derived.Test.YthijbipidbjpfaaGreatDoorZP27
import Derived.Test.YthijbipidbjpfaaGreatDoorZP19
import Derived.Test.YthijbipidbjpfaaGreatDoorZP00
import Derived.Test.YthijbipidbjpfaaGreatDoorZP25
import Derived.Test.YthijbipidbjpfaaGreatDoorZP13
import Derived.Test.YthijbipidbjpfaaGreatDoorZP15
import Derived.Test.YthijbipidbjpfaaGreatDoorZP03
import Derived.Test.YthijbipidbjpfaaGreatDoorZP14
import Derived.Test.YthijbipidbjpfaaGreatDoorZP06
set_option linter.unusedSimpArgs false
set_option linter.unusedVariables false
set_option maxRecDepth 100000
set_option maxHeartbeats 8000000
namespace Go.Proofs.YthijbipidbjpfaaGreatDoor
open Go.RowKit Go.Maps
theorem rhRemove_any(A:Option Addr)(c:Nat)(l:List Wr)(s:Int)(w:World)(ha:CW w A c l)(la:l.length≤1000){i:Nat}(hf:findS l s=(i,0)) :
  Calls Tryz.prog 83 #[.slice A l.length c,.int .i64 s] w (RemPost2 (remS l s) w):=by
 have HA:=Lib.hid ha;have HS:=Lib.hid ha.1;have hlc:=ha.2;clear ha;have hi:=findS_lt hf;obtain⟨b,off,x,rfl,hb,hx,hc0,hc1,hc2⟩:=HS.out.at_ hi
 have hF:Hid (remS l s=(l.take i++l.drop (i+1),x,0)):=by
  show _=_;unfold remS;rw[hf,if_pos rfl,List.getD_eq_getElem?_getD,hx];rfl
 have h1:=run_pre (some ⟨b,off,none⟩) c l.length i (by omega) (by omega);have h2:=run_suf (some ⟨b,off,none⟩) c l.length ((i:Int)+1) (by omega) (by omega);have e1:((i:Int)).toNat=i:=by omega
 have e2:((i:Int)+1).toNat=i+1:=by omega
 rw[e1] at h1;rw[e2] at h2;have i1:(i:Int)<l.length:=by omega
 have i2:(i:Int)≤1000:=by omega
 have hwr:IntKind.i64.wrap ((i:Int)+1)=(i:Int)+1:=IntWalk.i64_in _ (by omega);have H1:=Lib.hid (HS.out.take i);have H2:=Lib.hid (HA.out.suf (i+1) (by omega));obtain⟨A2,hA2⟩:∃ A2,(if c=i+1 then some ⟨b,off,none⟩ else (some (⟨b,off,none⟩:Addr)).map (fun a=>a.add ((i+1)*3)))=A2:=⟨_,rfl⟩;rw[hA2] at h2 H2;have HF:=Lib.hid hf;have hlen:(l.take i).length=i:=by simp;omega
 have hlen2:(l.take i).length≤1000:=by omega
 have HOWN:=fun (W:World) (h:SW W (some ⟨b,off,none⟩) (l.take i))=>rown_any (some ⟨b,off,none⟩) c (l.take i) W h hlen2
 rw[hlen] at HOWN;have HO:=Lib.hid HOWN;clear hf hx hA2 HOWN
 go_enter Tryz.func83,Tryz.ntmps83
 go_wp2_with fail;refine (RFind_any _ _ _ _ _ (HS.out.ext zbl) la HF.out).mono ?_;rintro e w1 ⟨rfl,hb1⟩;obtain⟨⟨k0,k1,k2⟩,⟨f0,f1,f2⟩,kl,hbw⟩:=box3 rfl hb1;have hd0:w1.cell? ⟨b,off+i*3,none⟩=some (.int .i64 x.1):=cell_keep hbw hc0 hb;have hd1:w1.cell? ⟨b,off+i*3+1,none⟩=some (.int .i64 x.2.1):=cell_keep hbw hc1 hb;have hd2:w1.cell? ⟨b,off+i*3+2,none⟩=some (.int .i64 x.2.2):=cell_keep hbw hc2 hb;clear hb1;go_wp2_with fail
 go_region_held3 (fun W=>Below w.heap.size w W∧W.cell? ⟨b,off+i*3,none⟩=some (.int .i64 x.1)∧W.cell? ⟨b,off+i*3+1,none⟩=some (.int .i64 x.2.1)∧W.cell? ⟨b,off+i*3+2,none⟩=some (.int .i64 x.2.2))
  (exact held4 (zbl) hc0 hc1 hc2 hb)
  (first | (go_at_call 117;(with_reducible refine (HO.out _ ?_).mono ?_);(exact H1.out.ext (hbw.trans (Below.mono (B:=w1.heap.size) (zbl) hbw.size)));rintro e w2 ⟨A3,c3,rfl,hc3,hm3,hb3⟩) | (refine step_appW rfl (.tmp 22) (.tmp 26) rfl _ w1.heap.size ?_ A3 c3 i (l.take i) hlen.symm (CanApp.ext hc3 ?_) A2 (c - (i+1)) (l.length - (i+1)) (l.drop (i+1)) (by simp) (H2.out.1.ext ?_) (by simp;omega) rfl rfl ?_;(exact hb3.size);(exact zbl);(exact hbw.trans (Below.mono (B:=w1.heap.size) (zbl) hbw.size));intro A4 c4 w4 hc4 hb4 hm4;have hb4':Below w1.heap.size w1 w4:=zbl;have g0:w4.cell? ⟨w.heap.size,0,none⟩=some (.int .i64 0):=cell_keep hb4' k0 kl;have g1:w4.cell? ⟨w.heap.size,1,none⟩=some (.int .i64 0):=cell_keep hb4' k1 kl;have g2:w4.cell? ⟨w.heap.size,2,none⟩=some (.int .i64 0):=cell_keep hb4' k2 kl;have g3:w4.frozen? ⟨w.heap.size,0,none⟩=false:=frozen_keep hb4' f0 kl;have g4:w4.frozen? ⟨w.heap.size,1,none⟩=false:=frozen_keep hb4' f1 kl;have g5:w4.frozen? ⟨w.heap.size,2,none⟩=false:=frozen_keep hb4' f2 kl))
 all_goals
  obtain⟨r0,r1,r2⟩:=cells3 g0 g1 g2 (.int .i64 x.1) (.int .i64 x.2.1) (.int .i64 x.2.2)
  have hM4:=hm4 (.inr hm3)
  have hcap:=hc4.cw.2
  have hmf:=((hM4.far 0 (.int .i64 x.1) kl).far 1 (.int .i64 x.2.1) kl).far 2 (.int .i64 x.2.2) kl
  have hlast:Below w.heap.size w (((w4.setCell ⟨w.heap.size,0,none⟩ (.int .i64 x.1)).setCell ⟨w.heap.size,1,none⟩ (.int .i64 x.2.1)).setCell ⟨w.heap.size,2,none⟩ (.int .i64 x.2.2)):=zbl
  have HH:=Lib.hid (And.intro hmf (And.intro hcap hlast))
  clear hmf hcap hlast hM4 hm4
  go_wp2_with fail
  refine bodyPost_ret (by simp[results,Tryz.results83,go_sem,r0,r1,r2] <;> rfl) rfl ?_
  unfold RemPost2
  rw[hF.out]
  exact⟨A4,c4,by simp[hlen],⟨HH.out.1.sw,HH.out.2.1⟩,HH.out.2.2,HH.out.1.base hbw.size⟩
theorem rdComplete_any(A B:Option Addr)(c d:Nat)(k0:Dsk)(k:Nat)(w:World)(ha:SR ctE w A k0.cells)(hb:SR jbE w B k0.jobs)(la:k0.cells.length≤1000)(lb:k0.jobs.length≤1000)(h0:(chkD k0).1=0)(hk:k<k0.jobs.length) :
  Calls Tryz.prog 80 #[dkV A c B d k0,.int .i64 k] w (DjPost (cmpD k0 k) w):=by
 have hok:=chkD_ok.1 h0;obtain⟨j,hj⟩:∃ j,k0.jobs[k]? = some j:=⟨_,List.getElem?_eq_getElem hk⟩;have hjm:=hok.inr j (List.mem_of_getElem? hj);rw[cmpD_good h0 hj];obtain⟨jw,js,jf,⟨x0,x1,x2,x3,x4,x5,x6,x7⟩⟩:=j;dsimp only at hjm;obtain⟨m,rfl⟩:∃ m:Nat,js=m:=⟨js.toNat,by omega⟩;have hm:m<k0.cells.length:=by omega
 have HJ:=Lib.hid hj;have HC:=Lib.hid (fun W h=>rdCheck_any A B c d k0 W h la lb (chkD_zero hok));have HO:=Lib.hid (fun W h1 h2=>rdOwn_any A B c d k0 W h1 h2 la lb);have HLE:Hid ((k0.jobs.eraseIdx k).length=k0.jobs.length - 1):=List.length_eraseIdx_of_lt hk;have HA:=Lib.hid ha;have HB:=Lib.hid hb
 have hne:¬ k0.jobs=[]:=fun e=>by rw[e] at hk;simp at hk
 have hne2:¬ k0.cells=[]:=fun e=>by rw[e] at hm;simp at hm
 have i0:(k:Int)<k0.jobs.length:=by omega
 have i1:(m:Int)<k0.cells.length:=by omega
 have i2:decide (k0.jobs.length≤k)=false:=by simpa using hk
 clear ha hb h0 hok hj hjm;unfold dkV at HC HO ⊢;obtain⟨X,hX⟩:∃ X,((w.alloc (.cells #[.slice A k0.cells.length c,.slice B k0.jobs.length d,.int .i64 k0.room] 31)).alloc (.cells #[.slice none 0 0,.slice none 0 0,.int .i64 0] 31)).alloc (.cells (zkj false 0 0 0 0 0 0 0 0 0 0).toArray 115)=X:=⟨_,rfl⟩;have kD:Blk X w.heap.size 31 #[.slice A k0.cells.length c,.slice B k0.jobs.length d,.int .i64 k0.room]:=by rw[←hX];exact((Blk.new_ rfl rfl).alloc_ _).alloc_ _
 have kA:Blk X (w.heap.size+1) 31 #[.slice none 0 0,.slice none 0 0,.int .i64 0]:=by rw[←hX];exact(Blk.new_ (by simp) rfl:Blk _ (w.heap.size+1) _ _).alloc_ _
 have kB:Blk X (w.heap.size+2) 115 (zkj false 0 0 0 0 0 0 0 0 0 0).toArray:=by rw[←hX];exact Blk.new_ (by simp) rfl
 have BX:Below w.heap.size w X:=by rw[←hX];exact zbl
 have zD:=kD.lt;obtain⟨q0,q1,q2⟩:=zc3 kD
 go_enter Tryz.func80,Tryz.ntmps80
 go_wp2_with fail;(try rw[hX]);clear hX;refine (HC.out X (HB.out.ext BX)).mono ?_;rintro e1 w1 ⟨rfl,hb1⟩;have B1:=zbt BX hb1;replace kD:=kD.below_ hb1 kD.lt;replace kA:=kA.below_ hb1 kA.lt;replace kB:=kB.below_ hb1 kB.lt;clear q0 q1 q2 zD;have zD:=kD.lt;have zB1:=kB.lt;obtain⟨q0,q1,q2⟩:=zc3 kD;go_wp2_with fail;refine (HO.out w1 (HA.out.ext B1) (HB.out.ext B1)).mono ?_;rintro e2 w2 ⟨A1,c1,A2,c2,rfl,o1,o2,hb2⟩;have B2:=zbt B1 hb2;replace kD:=kD.below_ hb2 kD.lt;replace kA:=kA.below_ hb2 kA.lt;replace kB:=kB.below_ hb2 kB.lt;clear q0 q1 q2 zD;obtain⟨gA,rfl,hgA1,hgA2⟩:=(o1.own.resolve_left hne2).at0 (by omega);obtain⟨g,rfl,hg1,hg2⟩:=(o2.own.resolve_left hne).at0 (by omega)
 have nAg:gA≠g:=by
  obtain⟨_,k1⟩:=(o1.own.resolve_left hne2).blk0 hm;obtain⟨_,k2⟩:=(o2.own.resolve_left hne).blk0 hk;exact k1.ne_ k2 (by decide)
 have hlc:k0.jobs.length≤c2:=o2.cr.2;unfold dkV;go_upto_region 7 with fail;obtain⟨V3,hV3⟩:∃ V,w2.alloc (.cells #[.slice (some ⟨gA,0,none⟩) k0.cells.length c1,.slice (some ⟨g,0,none⟩) k0.jobs.length c2,.int .i64 k0.room] 31)=V:=⟨_,rfl⟩;obtain⟨G,hG⟩:∃ G,w2.heap.size=G:=⟨_,rfl⟩;have kE:Blk V3 G 31 #[.slice (some ⟨gA,0,none⟩) k0.cells.length c1,.slice (some ⟨g,0,none⟩) k0.jobs.length c2,.int .i64 k0.room]:=by rw[←hV3,←hG];exact Blk.new_ rfl rfl
 have b3:=zab hV3;replace kD:=kD.below_ b3 kD.lt;replace kA:=kA.below_ b3 kA.lt;replace kB:=kB.below_ b3 kB.lt;have B3:=B2.trans (b3.mono B2.size);have hgG:g<G:=by omega
 have hgAG:gA<G:=by omega
 have hwG:w.heap.size+2<G:=by have:=hb2.size;omega
 have h1G:w1.heap.size≤G:=by have:=hb2.size;omega
 have HO1:=Lib.hid ((o1.own.resolve_left hne2).ext b3);have HO2:=Lib.hid ((o2.own.resolve_left hne).ext b3);rw[hV3,hG];clear hV3 hG b3 o1 o2 hgA2 hg2 hb2;obtain⟨b,off,y,rfl,hbl,hy,hc⟩:=(HB.out.ext B3).at_ hk;rw[HJ.out] at hy
 cases hy
 have e0:V3.cell? ⟨b,off+k*11,none⟩=some (.bool jw):=hc 0 _ rfl;have e1:V3.cell? ⟨b,off+k*11+1,none⟩=some (.int .i64 (m:Nat)):=hc 1 _ rfl;have e2:V3.cell? ⟨b,off+k*11+2,none⟩=some (.int .i64 jf):=hc 2 _ rfl;have e3:V3.cell? ⟨b,off+k*11+3,none⟩=some (.int .u64 x0):=hc 3 _ rfl;have e4:V3.cell? ⟨b,off+k*11+4,none⟩=some (.int .u64 x1):=hc 4 _ rfl;have e5:V3.cell? ⟨b,off+k*11+5,none⟩=some (.int .u64 x2):=hc 5 _ rfl;have e6:V3.cell? ⟨b,off+k*11+6,none⟩=some (.int .u64 x3):=hc 6 _ rfl;have e7:V3.cell? ⟨b,off+k*11+7,none⟩=some (.int .u64 x4):=hc 7 _ rfl;have e8:V3.cell? ⟨b,off+k*11+8,none⟩=some (.int .u64 x5):=hc 8 _ rfl;have e9:V3.cell? ⟨b,off+k*11+9,none⟩=some (.int .u64 x6):=hc 9 _ rfl;have e10:V3.cell? ⟨b,off+k*11+10,none⟩=some (.int .u64 x7):=hc 10 _ rfl;have zD:=kD.lt;have q1:=zc kD 1;clear hc;go_upto_region 8 with fail;obtain⟨V4,hV4⟩:∃ V,V3.alloc (.cells (zkj jw (m:Nat) jf x0 x1 x2 x3 x4 x5 x6 x7).toArray 115)=V:=⟨_,rfl⟩;obtain⟨H,hH⟩:∃ H,V3.heap.size=H:=⟨_,rfl⟩;have kJ:Blk V4 H 115 (zkj jw (m:Nat) jf x0 x1 x2 x3 x4 x5 x6 x7).toArray:=by rw[←hV4,←hH];exact Blk.new_ rfl rfl
 have b4:=zab hV4;have hGH:G<H:=by rw[←hH];exact kE.lt
 replace kD:=kD.below_ b4 kD.lt;replace kA:=kA.below_ b4 kA.lt;replace kB:=kB.below_ b4 kB.lt;replace kE:=kE.below_ b4 kE.lt;have B4:=B3.trans (b4.mono B3.size);replace HO1:=Lib.hid (HO1.out.ext b4);replace HO2:=Lib.hid (HO2.out.ext b4);have hHV:H<V4.heap.size:=kJ.lt;rw[hV4,hH];clear hV4 hH b4 zD q1 e0 e1 e2 e3 e4 e5 e6 e7 e8 e9 e10
 have e1:∀ W:World,(Instr.slice 29 (.slice (some ⟨g,0,none⟩) k0.jobs.length c2) none (some (.int .i64 k)) none).run Tryz.prog W=.ok (.slice (some ⟨g,0,none⟩) (k:Int).toNat c2) W:=fun W=>run_preR jbE (some ⟨g,0,none⟩) c2 k0.jobs.length k (by omega) (by omega) W
 rw[Int.toNat_natCast] at e1
 have e2:∀ W:World,(Instr.slice 29 (.slice (some ⟨g,0,none⟩) k0.jobs.length c2) (some (.int .i64 ((k:Int)+1))) none none).run Tryz.prog W=_:=fun W=>run_sufR jbE (some ⟨g,0,none⟩) c2 k0.jobs.length ((k:Int)+1) (by omega) (by omega) W
 rw[show ((k:Int)+1).toNat=k+1 by omega] at e2;obtain⟨A3,hA3⟩:∃ A3,(if c2=k+1 then some ⟨g,0,none⟩ else (some (⟨g,0,none⟩:Addr)).map (fun a=>a.add ((k+1)*Elt.sz jbE)))=A3:=⟨_,rfl⟩;rw[hA3] at e2;have HA3:=Lib.hid hA3;have hw64:IntKind.i64.wrap ((k:Int)+1)=(k:Int)+1:=IntWalk.i64_in _ (by omega);clear hA3
 go_cut [] from 39 to 49 (fun wx=>Blk wx w.heap.size 31 #[.slice A k0.cells.length c,.slice (some ⟨b,off,none⟩) k0.jobs.length d,.int .i64 k0.room]∧Blk wx (w.heap.size+1) 31 #[.slice none 0 0,.slice none 0 0,.int .i64 0]∧Blk wx (w.heap.size+2) 115 (zkj false 0 0 0 0 0 0 0 0 0 0).toArray∧Blk wx G 31 #[.slice (some ⟨gA,0,none⟩) k0.cells.length c1,.slice (some ⟨g,0,none⟩) (k0.jobs.length - 1) c2,.int .i64 k0.room]∧Blk wx H 115 (zkj jw (m:Nat) jf x0 x1 x2 x3 x4 x5 x6 x7).toArray∧OwnR ctE wx w1.heap.size (.slice (some ⟨gA,0,none⟩) k0.cells.length c1) k0.cells∧OwnR jbE wx w1.heap.size (.slice (some ⟨g,0,none⟩) (k0.jobs.length - 1) c2) (k0.jobs.eraseIdx k)∧Below w.heap.size w wx)
 case first=>
  obtain⟨W0,hW0⟩:∃ W,V4.drew=W:=⟨_,rfl⟩;have b0:Below V4.heap.size V4 W0:=by rw[←hW0];exact(Below.refl _ _).drew
  replace kD:=kD.below_ b0 kD.lt;replace kA:=kA.below_ b0 kA.lt;replace kB:=kB.below_ b0 kB.lt;replace kE:=kE.below_ b0 kE.lt;replace kJ:=kJ.below_ b0 kJ.lt;have cb:=B4.trans (b0.mono B4.size);replace HO1:=Lib.hid (HO1.out.ext b0);replace HO2:=Lib.hid (HO2.out.ext b0);have hs0:=b0.size;have zE:=kE.lt;obtain⟨-,p1,-⟩:=zc3 kE;obtain⟨w5,hA,hO5,hg5,hs5⟩:=run_delA jbE 29 HO2.out k hk;rw[HA3.out] at hA;replace hA:(Builtin.append_ #[29,29] 29 _).run Tryz.prog W0=_:=hA;clear b0;refine wp_region_held_drew (S:=fun _=>True) (by kernel_rfl) ?_ (fun hHeld => ?_)
  ·trivial
  rw[hW0];clear hW0;refine zht 0 ?_;refine zht 2 ?_;refine zht 4 ?_;refine zht 6 ?_;refine zht 7 ?_;refine zhr2 1 5 (fun K hK => ?_) (fun K hK => ?_)
  ·go_simp
   refine hK.out _ _ (by trivial) fun hHeld => ?_
   clear hK K;(try simp only[Act.put,zy0,zy1,zy2]);refine zht 3 ?_;refine zhr 5 (fun K hK => ?_)
   ·go_simp
    refine hK.out _ _ (by trivial) fun hHeld => ?_
    clear hK K;(try simp only[Act.put,zy0,zy1,zy2]);refine zht 8 ?_;refine zhr 9 (fun K hK => ?_)
    ·refine step_app rfl (.tmp 42) (.tmp 47) _ rfl _ _ _ _ _ rfl rfl hA ?_
     replace kD:=kD.kept hg5 (by simp;omega);replace kA:=kA.kept hg5 (by simp;omega);replace kB:=kB.kept hg5 (by simp;omega);replace kE:=kE.kept hg5 (by simp;omega);replace kJ:=kJ.kept hg5 (by simp;omega);replace HO1:=Lib.hid (HO1.out.same (hg5.block gA (by omega) (by simpa using nAg)));replace cb:=below_grown cb hg5 (by omega);have zG5:=kE.lt;obtain⟨-,u1,-⟩:=zc3 kE;have uf1:=kE.frozen_ 1
     refine hK.out _ _ (by trivial) fun hHeld => ?_
     clear hK K;(try simp only[Act.put,zy0,zy1,zy2]);refine zht 10 ?_;refine zhr 11 (fun K hK => ?_)
     ·go_simp
      refine hK.out _ _ (by trivial) fun hHeld => ?_
      clear hK K;(try simp only[Act.put,zy0,zy1,zy2]);refine wpAnyH_done (by kernel_rfl) ?_ _;obtain⟨V6,hV6⟩:∃ V,w5.setCell ⟨G,1,none⟩ (.slice (some ⟨g,0,none⟩) (k0.jobs.length - 1) c2)=V:=⟨_,rfl⟩;rw[hV6];have kE6:Blk V6 G 31 #[.slice (some ⟨gA,0,none⟩) k0.cells.length c1,.slice (some ⟨g,0,none⟩) (k0.jobs.length - 1) c2,.int .i64 k0.room]:=by rw[←hV6];exact kE.set_ 1 _
      go_wp2_with fail
      go_meet
      rw[←hV6] at kE6 ⊢;refine⟨kD.far_ (by show _≠G;omega) _,kA.far_ (by show _≠G;omega) _,kB.far_ (by show _≠G;omega) _,kE6,kJ.far_ (by show _≠G;omega) _,HO1.out.far' (by show gA≠G;omega) _,hO5.far' (by show g≠G;omega) _,cb.setCell (p:=⟨G,1,none⟩) (by show w.heap.size≤G;omega) _⟩
  ·go_simp
   refine hK.out _ _ (by trivial) fun hHeld => ?_
   clear hK K;(try simp only[Act.put,zy0,zy1,zy2]);refine zht 8 ?_;refine zhr 1 (fun K hK => ?_)
   ·go_simp
    refine hK.out _ _ (by trivial) fun hHeld => ?_
    clear hK K;(try simp only[Act.put,zy0,zy1,zy2]);refine zht 3 ?_;refine zhr 9 (fun K hK => ?_)
    ·refine step_app rfl (.tmp 42) (.tmp 47) _ rfl _ _ _ _ _ rfl rfl hA ?_
     replace kD:=kD.kept hg5 (by simp;omega);replace kA:=kA.kept hg5 (by simp;omega);replace kB:=kB.kept hg5 (by simp;omega);replace kE:=kE.kept hg5 (by simp;omega);replace kJ:=kJ.kept hg5 (by simp;omega);replace HO1:=Lib.hid (HO1.out.same (hg5.block gA (by omega) (by simpa using nAg)));replace cb:=below_grown cb hg5 (by omega);have zG5:=kE.lt;obtain⟨-,u1,-⟩:=zc3 kE;have uf1:=kE.frozen_ 1
     refine hK.out _ _ (by trivial) fun hHeld => ?_
     clear hK K;(try simp only[Act.put,zy0,zy1,zy2]);refine zht 10 ?_;refine zhr 11 (fun K hK => ?_)
     ·go_simp
      refine hK.out _ _ (by trivial) fun hHeld => ?_
      clear hK K;(try simp only[Act.put,zy0,zy1,zy2]);refine wpAnyH_done (by kernel_rfl) ?_ _;obtain⟨V6,hV6⟩:∃ V,w5.setCell ⟨G,1,none⟩ (.slice (some ⟨g,0,none⟩) (k0.jobs.length - 1) c2)=V:=⟨_,rfl⟩;rw[hV6];have kE6:Blk V6 G 31 #[.slice (some ⟨gA,0,none⟩) k0.cells.length c1,.slice (some ⟨g,0,none⟩) (k0.jobs.length - 1) c2,.int .i64 k0.room]:=by rw[←hV6];exact kE.set_ 1 _
      go_wp2_with fail
      go_meet
      rw[←hV6] at kE6 ⊢;refine⟨kD.far_ (by show _≠G;omega) _,kA.far_ (by show _≠G;omega) _,kB.far_ (by show _≠G;omega) _,kE6,kJ.far_ (by show _≠G;omega) _,HO1.out.far' (by show gA≠G;omega) _,hO5.far' (by show g≠G;omega) _,cb.setCell (p:=⟨G,1,none⟩) (by show w.heap.size≤G;omega) _⟩
 case rest=>
  obtain⟨kD6,kA6,kB6,kE6,kJ6,hO1,hO2,cb⟩:=hcut;clear kD kA kB kE kJ HO1 HO2 e1 e2;have kD:=kD6;have kA:=kA6;have kB:=kB6;have kE:=kE6;have kJ:=kJ6;have HO1:=Lib.hid hO1;have HO2:=Lib.hid hO2;clear kD6 kA6 kB6 kE6 kJ6 hO1 hO2;obtain⟨V6,rfl⟩:∃ V,V=wc:=⟨_,rfl⟩;have zE:=kE.lt;have zJ:=kJ.lt;have sV6:H<V6.heap.size:=kJ.lt
  cases jw with
  | true=>
   have HE:Hid (dkR k0 ⟨true,(m:Nat),jf,⟨x0,x1,x2,x3,x4,x5,x6,x7⟩⟩ k=(⟨k0.cells.set m ⟨x0,x1,x2,x3,x4,x5,x6,x7⟩,k0.jobs.eraseIdx k,k0.room⟩,⟨true,(m:Nat),jf,⟨x0,x1,x2,x3,x4,x5,x6,x7⟩⟩)):=by show _=_;unfold dkR;rfl
   obtain⟨⟨z0,z1,z2,z3,z4,z5,z6,z7⟩,hXC⟩:∃ x,k0.cells[m]? = some x:=⟨_,List.getElem?_eq_getElem hm⟩;have ac:=HO1.out.ct hXC;have a0:=ac.1;have a1:=ac.2.1;have a2:=ac.2.2.1;have a3:=ac.2.2.2.1;have a4:=ac.2.2.2.2.1;have a5:=ac.2.2.2.2.2.1;have a6:=ac.2.2.2.2.2.2.1;have a7:=ac.2.2.2.2.2.2.2;obtain⟨curA,kAA⟩:=HO1.out.blk0 hm;have af0:=kAA.frozen_ (m*8);have af1:=kAA.frozen_ (m*8+1);have af2:=kAA.frozen_ (m*8+2);have af3:=kAA.frozen_ (m*8+3);have af4:=kAA.frozen_ (m*8+4);have af5:=kAA.frozen_ (m*8+5);have af6:=kAA.frozen_ (m*8+6);have af7:=kAA.frozen_ (m*8+7);clear ac hXC;have zgA:=kAA.lt;obtain⟨u0,-⟩:=zc3 kE;obtain⟨v0,v1,v2,v3,v4,v5,v6,v7,v8,v9,v10⟩:=zc11 kJ;go_upto_region 12 with fail;obtain⟨W7,hW7⟩:∃ W,setC8 V6 gA (m*8) ⟨x0,x1,x2,x3,x4,x5,x6,x7⟩=W:=⟨_,rfl⟩;rw[show (World.setCell (World.setCell (World.setCell (World.setCell (World.setCell (World.setCell (World.setCell (World.setCell V6 ⟨gA,m*8,none⟩ (.int .u64 x0)) ⟨gA,m*8+1,none⟩ (.int .u64 x1)) ⟨gA,m*8+2,none⟩ (.int .u64 x2)) ⟨gA,m*8+3,none⟩ (.int .u64 x3)) ⟨gA,m*8+4,none⟩ (.int .u64 x4)) ⟨gA,m*8+5,none⟩ (.int .u64 x5)) ⟨gA,m*8+6,none⟩ (.int .u64 x6)) ⟨gA,m*8+7,none⟩ (.int .u64 x7))=W7 from hW7];have hg7:V6.grownBy W7 (some gA):=by rw[←hW7];exact grown_setC8 _ _ _ _
   have HO1s:Hid (OwnR ctE W7 w1.heap.size (.slice (some ⟨gA,0,none⟩) k0.cells.length c1) (k0.cells.set m ⟨x0,x1,x2,x3,x4,x5,x6,x7⟩)):=by show OwnR _ _ _ _ _;rw[←hW7];exact HO1.out.setC hm ⟨x0,x1,x2,x3,x4,x5,x6,x7⟩ rfl
   have HO2s:=Lib.hid (HO2.out.same (hg7.block g (by omega) (by simpa using nAg.symm)));clear hW7 kAA u0 a0 af0 v0 a1 af1 v1 a2 af2 v2 a3 af3 v3 a4 af4 v4 a5 af5 v5 a6 af6 v6 a7 af7 v7 v8 v9 v10;replace kE:=kE.kept hg7 (by simp;omega);replace kJ:=kJ.kept hg7 (by simp;omega);replace kA:=kA.kept hg7 (by simp;omega);replace kB:=kB.kept hg7 (by simp;omega);replace cb:=below_grownB cb hg7 (by omega) (Nat.le_refl _);have HOA:Hid (OwnE ctE W7 w1.heap.size (some ⟨gA,0,none⟩) c1 (k0.cells.set m ⟨x0,x1,x2,x3,x4,x5,x6,x7⟩)):=OwnE.of_own HO1s.out (by simp);have HOJ:Hid (OwnE jbE W7 w1.heap.size (some ⟨g,0,none⟩) c2 (k0.jobs.eraseIdx k)):=OwnE.of_own HO2s.out HLE.out.symm;clear HO1s HO2s HO1 HO2 hg7 kD zgA;obtain⟨cv,hcv⟩:∃ V,W7.drew=V:=⟨_,rfl⟩;have b5:Below W7.heap.size W7 cv:=by rw[←hcv];exact(Below.refl _ _).drew
   replace kE:=kE.below_ b5 kE.lt;replace kJ:=kJ.below_ b5 kJ.lt;replace kA:=kA.below_ b5 kA.lt;replace kB:=kB.below_ b5 kB.lt;have oA:=HOA.out.ext b5;have oJ:=HOJ.out.ext b5;replace cb:=cb.trans (b5.mono cb.size)
   have hS_of:∀ {V:World},Blk V G 31 #[.slice (some ⟨gA,0,none⟩) k0.cells.length c1,.slice (some ⟨g,0,none⟩) (k0.jobs.length - 1) c2,.int .i64 k0.room]→Blk V H 115 (zkj true (m:Nat) jf x0 x1 x2 x3 x4 x5 x6 x7).toArray→(V.cell? ⟨G,0,none⟩=some (.slice (some ⟨gA,0,none⟩) k0.cells.length c1)∧V.cell? ⟨G,1,none⟩=some (.slice (some ⟨g,0,none⟩) (k0.jobs.length - 1) c2)∧V.cell? ⟨G,2,none⟩=some (.int .i64 k0.room)∧V.cell? ⟨H,0,none⟩=some (.bool true)∧V.cell? ⟨H,1,none⟩=some (.int .i64 (m:Nat))∧V.cell? ⟨H,2,none⟩=some (.int .i64 jf)∧V.cell? ⟨H,3,none⟩=some (.int .u64 x0)∧V.cell? ⟨H,4,none⟩=some (.int .u64 x1)∧V.cell? ⟨H,5,none⟩=some (.int .u64 x2)∧V.cell? ⟨H,6,none⟩=some (.int .u64 x3)∧V.cell? ⟨H,7,none⟩=some (.int .u64 x4)∧V.cell? ⟨H,8,none⟩=some (.int .u64 x5)∧V.cell? ⟨H,9,none⟩=some (.int .u64 x6)∧V.cell? ⟨H,10,none⟩=some (.int .u64 x7)):=fun h1 h2=>⟨by simpa using h1.cell_ 0,by simpa using h1.cell_ 1,by simpa using h1.cell_ 2,by simpa using h2.cell_ 0,by simpa using h2.cell_ 1,by simpa using h2.cell_ 2,by simpa using h2.cell_ 3,by simpa using h2.cell_ 4,by simpa using h2.cell_ 5,by simpa using h2.cell_ 6,by simpa using h2.cell_ 7,by simpa using h2.cell_ 8,by simpa using h2.cell_ 9,by simpa using h2.cell_ 10⟩
   have hS:=hS_of kE kJ;clear b5;refine wp_region_held_drew (S:=fun V=>V.cell? ⟨G,0,none⟩=some (.slice (some ⟨gA,0,none⟩) k0.cells.length c1)∧V.cell? ⟨G,1,none⟩=some (.slice (some ⟨g,0,none⟩) (k0.jobs.length - 1) c2)∧V.cell? ⟨G,2,none⟩=some (.int .i64 k0.room)∧V.cell? ⟨H,0,none⟩=some (.bool true)∧V.cell? ⟨H,1,none⟩=some (.int .i64 (m:Nat))∧V.cell? ⟨H,2,none⟩=some (.int .i64 jf)∧V.cell? ⟨H,3,none⟩=some (.int .u64 x0)∧V.cell? ⟨H,4,none⟩=some (.int .u64 x1)∧V.cell? ⟨H,5,none⟩=some (.int .u64 x2)∧V.cell? ⟨H,6,none⟩=some (.int .u64 x3)∧V.cell? ⟨H,7,none⟩=some (.int .u64 x4)∧V.cell? ⟨H,8,none⟩=some (.int .u64 x5)∧V.cell? ⟨H,9,none⟩=some (.int .u64 x6)∧V.cell? ⟨H,10,none⟩=some (.int .u64 x7)) (by kernel_rfl) ?_ (fun hHeld => ?_)
   ·(rw[hcv];exact hS)
   rw[hcv];clear hcv;refine zht 0 ?_;refine zht 1 ?_;refine zhr 2 (fun K hK => ?_)
   ·have ta0:cv.cell? ⟨w.heap.size+1,0,none⟩=some (.slice none 0 0):=by simpa using kA.cell_ 0
    obtain⟨-,ta1,ta2⟩:=zc3 kA;obtain⟨ga0,ga1,ga2,-⟩:=zf kA;have zkA:=kA.lt;go_simp;obtain⟨cx,hcx⟩:∃ V,setN cv (w.heap.size+1) 0 [.slice (some ⟨gA,0,none⟩) k0.cells.length c1,.slice (some ⟨g,0,none⟩) (k0.jobs.length - 1) c2,.int .i64 k0.room]=V:=⟨_,rfl⟩;rw[show (World.setCell (World.setCell (World.setCell cv ⟨w.heap.size+1,0,none⟩ (.slice (some ⟨gA,0,none⟩) k0.cells.length c1)) ⟨w.heap.size+1,1,none⟩ (.slice (some ⟨g,0,none⟩) (k0.jobs.length - 1) c2)) ⟨w.heap.size+1,2,none⟩ (.int .i64 k0.room))=cx from hcx];have hgv:cv.grownBy cx (some (w.heap.size+1)):=by rw[←hcx];exact grown_setN _ _ _ _
    replace kA:Blk cx (w.heap.size+1) 31 #[.slice (some ⟨gA,0,none⟩) k0.cells.length c1,.slice (some ⟨g,0,none⟩) (k0.jobs.length - 1) c2,.int .i64 k0.room]:=by rw[←hcx];exact blk_setN kA _ rfl
    clear hcx ta0 ga0 ta1 ga1 ta2 ga2;replace kB:=kB.kept hgv (by simp);replace kE:=kE.kept hgv (by simp;omega);replace kJ:=kJ.kept hgv (by simp;omega);replace oA:=oA.grown hgv (by omega);replace oJ:=oJ.grown hgv (by omega);replace cb:=below_grownB cb hgv (by omega) (Nat.le_refl _);replace hS:=hS_of kE kJ;clear hgv zkA;obtain⟨cv,rfl⟩:∃ V,V=cx:=⟨_,rfl⟩
    refine hK.out _ _ (by exact hS) fun hHeld => ?_
    clear hK K;(try simp only[Act.put,zy0,zy1,zy2]);refine zhr 3 (fun K hK => ?_)
    ·have tb0:cv.cell? ⟨w.heap.size+2,0,none⟩=some (.bool false):=by simpa using kB.cell_ 0
     obtain⟨-,tb1,tb2,tb3,tb4,tb5,tb6,tb7,tb8,tb9,tb10⟩:=zc11 kB;obtain⟨gb0,gb1,gb2,gb3,gb4,gb5,gb6,gb7,gb8,gb9,gb10,-⟩:=zf kB;have zkB:=kB.lt;go_simp;obtain⟨cx,hcx⟩:∃ V,setN cv (w.heap.size+2) 0 (zkj true (m:Nat) jf x0 x1 x2 x3 x4 x5 x6 x7)=V:=⟨_,rfl⟩;rw[zs11 hcx];have hgv:cv.grownBy cx (some (w.heap.size+2)):=by rw[←hcx];exact grown_setN _ _ _ _
     replace kB:Blk cx (w.heap.size+2) 115 (zkj true (m:Nat) jf x0 x1 x2 x3 x4 x5 x6 x7).toArray:=by rw[←hcx];exact blk_setN kB _ rfl
     clear hcx tb0 gb0 tb1 gb1 tb2 gb2 tb3 gb3 tb4 gb4 tb5 gb5 tb6 gb6 tb7 gb7 tb8 gb8 tb9 gb9 tb10 gb10;replace kA:=kA.kept hgv (by simp);replace kE:=kE.kept hgv (by simp;omega);replace kJ:=kJ.kept hgv (by simp;omega);replace oA:=oA.grown hgv (by omega);replace oJ:=oJ.grown hgv (by omega);replace cb:=below_grownB cb hgv (by omega) (Nat.le_refl _);replace hS:=hS_of kE kJ;clear hgv zkB;obtain⟨cv,rfl⟩:∃ V,V=cx:=⟨_,rfl⟩
     refine hK.out _ _ (by exact hS) fun hHeld => ?_
     clear hK K;(try simp only[Act.put,zy0,zy1,zy2]);refine zht 4 ?_;refine wpAnyH_done (by kernel_rfl) ?_ _;go_wp2_with fail;obtain⟨rp0,rp1,rp2⟩:=zc3 kA;refine bodyPost_ret (by simp[results,Tryz.results80,go_sem,rp0,rp1,rp2,zc11 kB] <;> rfl) rfl ?_;rw[HE.out];exact⟨some ⟨gA,0,none⟩,c1,some ⟨g,0,none⟩,c2,by simp only[dkV,List.length_set,HLE.out];rfl,oA.base_ (by omega),oJ.base_ (by omega),cb⟩
  | false=>
   obtain⟨b,off,y,rfl,hbl,hy,hc⟩:=(HA.out.ext cb).at_ (k:=m) hm;obtain⟨y0,y1,y2,y3,y4,y5,y6,y7⟩:=y;have a0:V6.cell? ⟨b,off+m*8,none⟩=some (.int .u64 y0):=by simpa [show ctE.sz=8 from rfl,Nat.add_assoc] using hc 0 _ rfl
   have a1:V6.cell? ⟨b,off+m*8+1,none⟩=some (.int .u64 y1):=by simpa [show ctE.sz=8 from rfl,Nat.add_assoc] using hc 1 _ rfl
   have a2:V6.cell? ⟨b,off+m*8+2,none⟩=some (.int .u64 y2):=by simpa [show ctE.sz=8 from rfl,Nat.add_assoc] using hc 2 _ rfl
   have a3:V6.cell? ⟨b,off+m*8+3,none⟩=some (.int .u64 y3):=by simpa [show ctE.sz=8 from rfl,Nat.add_assoc] using hc 3 _ rfl
   have a4:V6.cell? ⟨b,off+m*8+4,none⟩=some (.int .u64 y4):=by simpa [show ctE.sz=8 from rfl,Nat.add_assoc] using hc 4 _ rfl
   have a5:V6.cell? ⟨b,off+m*8+5,none⟩=some (.int .u64 y5):=by simpa [show ctE.sz=8 from rfl,Nat.add_assoc] using hc 5 _ rfl
   have a6:V6.cell? ⟨b,off+m*8+6,none⟩=some (.int .u64 y6):=by simpa [show ctE.sz=8 from rfl,Nat.add_assoc] using hc 6 _ rfl
   have a7:V6.cell? ⟨b,off+m*8+7,none⟩=some (.int .u64 y7):=by simpa [show ctE.sz=8 from rfl,Nat.add_assoc] using hc 7 _ rfl
   have HE:Hid (dkR k0 ⟨false,(m:Nat),jf,⟨x0,x1,x2,x3,x4,x5,x6,x7⟩⟩ k=(⟨k0.cells,k0.jobs.eraseIdx k,k0.room⟩,⟨false,(m:Nat),jf,⟨y0,y1,y2,y3,y4,y5,y6,y7⟩⟩)):=by show _=_;unfold dkR;simp only[Int.toNat_natCast];rw[List.getD_eq_getElem?_getD,hy];rfl
   clear hc hy;have zD:=kD.lt;have u0:=zc kD 0;obtain⟨v0,v1,v2,v3,v4,v5,v6,v7,v8,v9,v10⟩:=zc11 kJ;obtain⟨vf0,vf1,vf2,vf3,vf4,vf5,vf6,vf7,vf8,vf9,vf10,-⟩:=zf kJ;go_upto_region 12 with fail;obtain⟨W7,hW7⟩:∃ W,setN V6 H 3 (zkk y0 y1 y2 y3 y4 y5 y6 y7)=W:=⟨_,rfl⟩;rw[show (World.setCell (World.setCell (World.setCell (World.setCell (World.setCell (World.setCell (World.setCell (World.setCell V6 ⟨H,3,none⟩ (.int .u64 y0)) ⟨H,4,none⟩ (.int .u64 y1)) ⟨H,5,none⟩ (.int .u64 y2)) ⟨H,6,none⟩ (.int .u64 y3)) ⟨H,7,none⟩ (.int .u64 y4)) ⟨H,8,none⟩ (.int .u64 y5)) ⟨H,9,none⟩ (.int .u64 y6)) ⟨H,10,none⟩ (.int .u64 y7))=W7 from hW7];have hg7:V6.grownBy W7 (some H):=by rw[←hW7];exact grown_setN _ _ _ _
   have kJ7:Blk W7 H 115 (zkj false (m:Nat) jf y0 y1 y2 y3 y4 y5 y6 y7).toArray:=by rw[←hW7];exact blk_setO kJ (zkk y0 y1 y2 y3 y4 y5 y6 y7) rfl
   have HO1s:=Lib.hid (HO1.out.same (hg7.block gA (by omega) (by simp;omega)));have HO2s:=Lib.hid (HO2.out.same (hg7.block g (by omega) (by simp;omega)));clear hW7 u0 kJ a0 v0 vf0 a1 v1 vf1 a2 v2 vf2 a3 v3 vf3 a4 v4 vf4 a5 v5 vf5 a6 v6 vf6 a7 v7 vf7 v8 v9 v10 vf8 vf9 vf10;have kJ:=kJ7;clear kJ7;replace kE:=kE.kept hg7 (by simp;omega);replace kA:=kA.kept hg7 (by simp;omega);replace kB:=kB.kept hg7 (by simp;omega);replace cb:=below_grownB cb hg7 (by omega) (Nat.le_refl _);have HOA:Hid (OwnE ctE W7 w1.heap.size (some ⟨gA,0,none⟩) c1 k0.cells):=OwnE.of_own HO1s.out rfl;have HOJ:Hid (OwnE jbE W7 w1.heap.size (some ⟨g,0,none⟩) c2 (k0.jobs.eraseIdx k)):=OwnE.of_own HO2s.out HLE.out.symm;clear HO1s HO2s HO1 HO2 hg7 kD zD;obtain⟨cv,hcv⟩:∃ V,W7.drew=V:=⟨_,rfl⟩;have b5:Below W7.heap.size W7 cv:=by rw[←hcv];exact(Below.refl _ _).drew
   replace kE:=kE.below_ b5 kE.lt;replace kJ:=kJ.below_ b5 kJ.lt;replace kA:=kA.below_ b5 kA.lt;replace kB:=kB.below_ b5 kB.lt;have oA:=HOA.out.ext b5;have oJ:=HOJ.out.ext b5;replace cb:=cb.trans (b5.mono cb.size)
   have hS_of:∀ {V:World},Blk V G 31 #[.slice (some ⟨gA,0,none⟩) k0.cells.length c1,.slice (some ⟨g,0,none⟩) (k0.jobs.length - 1) c2,.int .i64 k0.room]→Blk V H 115 (zkj false (m:Nat) jf y0 y1 y2 y3 y4 y5 y6 y7).toArray→(V.cell? ⟨G,0,none⟩=some (.slice (some ⟨gA,0,none⟩) k0.cells.length c1)∧V.cell? ⟨G,1,none⟩=some (.slice (some ⟨g,0,none⟩) (k0.jobs.length - 1) c2)∧V.cell? ⟨G,2,none⟩=some (.int .i64 k0.room)∧V.cell? ⟨H,0,none⟩=some (.bool false)∧V.cell? ⟨H,1,none⟩=some (.int .i64 (m:Nat))∧V.cell? ⟨H,2,none⟩=some (.int .i64 jf)∧V.cell? ⟨H,3,none⟩=some (.int .u64 y0)∧V.cell? ⟨H,4,none⟩=some (.int .u64 y1)∧V.cell? ⟨H,5,none⟩=some (.int .u64 y2)∧V.cell? ⟨H,6,none⟩=some (.int .u64 y3)∧V.cell? ⟨H,7,none⟩=some (.int .u64 y4)∧V.cell? ⟨H,8,none⟩=some (.int .u64 y5)∧V.cell? ⟨H,9,none⟩=some (.int .u64 y6)∧V.cell? ⟨H,10,none⟩=some (.int .u64 y7)):=fun h1 h2=>⟨by simpa using h1.cell_ 0,by simpa using h1.cell_ 1,by simpa using h1.cell_ 2,by simpa using h2.cell_ 0,by simpa using h2.cell_ 1,by simpa using h2.cell_ 2,by simpa using h2.cell_ 3,by simpa using h2.cell_ 4,by simpa using h2.cell_ 5,by simpa using h2.cell_ 6,by simpa using h2.cell_ 7,by simpa using h2.cell_ 8,by simpa using h2.cell_ 9,by simpa using h2.cell_ 10⟩
   have hS:=hS_of kE kJ;clear b5;refine wp_region_held_drew (S:=fun V=>V.cell? ⟨G,0,none⟩=some (.slice (some ⟨gA,0,none⟩) k0.cells.length c1)∧V.cell? ⟨G,1,none⟩=some (.slice (some ⟨g,0,none⟩) (k0.jobs.length - 1) c2)∧V.cell? ⟨G,2,none⟩=some (.int .i64 k0.room)∧V.cell? ⟨H,0,none⟩=some (.bool false)∧V.cell? ⟨H,1,none⟩=some (.int .i64 (m:Nat))∧V.cell? ⟨H,2,none⟩=some (.int .i64 jf)∧V.cell? ⟨H,3,none⟩=some (.int .u64 y0)∧V.cell? ⟨H,4,none⟩=some (.int .u64 y1)∧V.cell? ⟨H,5,none⟩=some (.int .u64 y2)∧V.cell? ⟨H,6,none⟩=some (.int .u64 y3)∧V.cell? ⟨H,7,none⟩=some (.int .u64 y4)∧V.cell? ⟨H,8,none⟩=some (.int .u64 y5)∧V.cell? ⟨H,9,none⟩=some (.int .u64 y6)∧V.cell? ⟨H,10,none⟩=some (.int .u64 y7)) (by kernel_rfl) ?_ (fun hHeld => ?_)
   ·(rw[hcv];exact hS)
   rw[hcv];clear hcv;refine zht 0 ?_;refine zht 1 ?_;refine zhr 2 (fun K hK => ?_)
   ·have ta0:cv.cell? ⟨w.heap.size+1,0,none⟩=some (.slice none 0 0):=by simpa using kA.cell_ 0
    have ta1:=zc kA 1;have ta2:=zc kA 2;obtain⟨ga0,ga1,ga2,-⟩:=zf kA;have zkA:=kA.lt;go_simp;obtain⟨cx,hcx⟩:∃ V,setN cv (w.heap.size+1) 0 [.slice (some ⟨gA,0,none⟩) k0.cells.length c1,.slice (some ⟨g,0,none⟩) (k0.jobs.length - 1) c2,.int .i64 k0.room]=V:=⟨_,rfl⟩;rw[show (World.setCell (World.setCell (World.setCell cv ⟨w.heap.size+1,0,none⟩ (.slice (some ⟨gA,0,none⟩) k0.cells.length c1)) ⟨w.heap.size+1,1,none⟩ (.slice (some ⟨g,0,none⟩) (k0.jobs.length - 1) c2)) ⟨w.heap.size+1,2,none⟩ (.int .i64 k0.room))=cx from hcx];have hgv:cv.grownBy cx (some (w.heap.size+1)):=by rw[←hcx];exact grown_setN _ _ _ _
    replace kA:Blk cx (w.heap.size+1) 31 #[.slice (some ⟨gA,0,none⟩) k0.cells.length c1,.slice (some ⟨g,0,none⟩) (k0.jobs.length - 1) c2,.int .i64 k0.room]:=by rw[←hcx];exact blk_setN kA _ rfl
    clear hcx ta0 ga0 ta1 ga1 ta2 ga2;replace kB:=kB.kept hgv (by simp);replace kE:=kE.kept hgv (by simp;omega);replace kJ:=kJ.kept hgv (by simp;omega);replace oA:=oA.grown hgv (by omega);replace oJ:=oJ.grown hgv (by omega);replace cb:=below_grownB cb hgv (by omega) (Nat.le_refl _);replace hS:=hS_of kE kJ;clear hgv zkA;obtain⟨cv,rfl⟩:∃ V,V=cx:=⟨_,rfl⟩
    refine hK.out _ _ (by exact hS) fun hHeld => ?_
    clear hK K;(try simp only[Act.put,zy0,zy1,zy2]);refine zhr 3 (fun K hK => ?_)
    ·have tb0:cv.cell? ⟨w.heap.size+2,0,none⟩=some (.bool false):=by simpa using kB.cell_ 0
     have tb1:=zc kB 1;have tb2:=zc kB 2;have tb3:=zc kB 3;have tb4:=zc kB 4;have tb5:=zc kB 5;have tb6:=zc kB 6;have tb7:=zc kB 7;have tb8:=zc kB 8;have tb9:=zc kB 9;have tb10:=zc kB 10;obtain⟨gb0,gb1,gb2,gb3,gb4,gb5,gb6,gb7,gb8,gb9,gb10,-⟩:=zf kB;have zkB:=kB.lt;go_simp;obtain⟨cx,hcx⟩:∃ V,setN cv (w.heap.size+2) 0 (zkj false (m:Nat) jf y0 y1 y2 y3 y4 y5 y6 y7)=V:=⟨_,rfl⟩;rw[zs11 hcx];have hgv:cv.grownBy cx (some (w.heap.size+2)):=by rw[←hcx];exact grown_setN _ _ _ _
     replace kB:Blk cx (w.heap.size+2) 115 (zkj false (m:Nat) jf y0 y1 y2 y3 y4 y5 y6 y7).toArray:=by rw[←hcx];exact blk_setN kB _ rfl
     clear hcx tb0 gb0 tb1 gb1 tb2 gb2 tb3 gb3 tb4 gb4 tb5 gb5 tb6 gb6 tb7 gb7 tb8 gb8 tb9 gb9 tb10 gb10;replace kA:=kA.kept hgv (by simp);replace kE:=kE.kept hgv (by simp;omega);replace kJ:=kJ.kept hgv (by simp;omega);replace oA:=oA.grown hgv (by omega);replace oJ:=oJ.grown hgv (by omega);replace cb:=below_grownB cb hgv (by omega) (Nat.le_refl _);replace hS:=hS_of kE kJ;clear hgv zkB;obtain⟨cv,rfl⟩:∃ V,V=cx:=⟨_,rfl⟩
     refine hK.out _ _ (by exact hS) fun hHeld => ?_
     clear hK K;(try simp only[Act.put,zy0,zy1,zy2]);refine zht 4 ?_;refine wpAnyH_done (by kernel_rfl) ?_ _;go_wp2_with fail;obtain⟨rp0,rp1,rp2⟩:=zc3 kA;refine bodyPost_ret (by simp[results,Tryz.results80,go_sem,rp0,rp1,rp2,zc11 kB] <;> rfl) rfl ?_;rw[HE.out];exact⟨some ⟨gA,0,none⟩,c1,some ⟨g,0,none⟩,c2,by simp only[dkV,HLE.out];rfl,oA.base_ (by omega),oJ.base_ (by omega),cb⟩
end Go.Proofs.YthijbipidbjpfaaGreatDoor
