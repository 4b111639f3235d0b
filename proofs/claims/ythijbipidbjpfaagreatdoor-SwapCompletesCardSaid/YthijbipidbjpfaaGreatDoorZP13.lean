import Derived.Test.YthijbipidbjpfaaGreatDoorZP12
import Derived.Test.YthijbipidbjpfaaGreatDoorZP00
import Derived.Test.YthijbipidbjpfaaGreatDoorZP03
import Derived.Laws.CopyRow
import Derived.Test.YthijbipidbjpfaaGreatDoorZP06
set_option linter.unusedSimpArgs false
set_option linter.unusedVariables false
set_option maxRecDepth 100000
set_option maxHeartbeats 8000000
namespace Go.Proofs.YthijbipidbjpfaaGreatDoor
open Go.RowKit Go.Maps
def DkPost(R:Dsk × Int)(w:World)(e:Ending)(w':World):Prop:=∃ A c B d,e=.returned (.tuple #[dkV A c B d R.1,.int .i64 R.2])∧OwnE ctE w' w.heap.size A c R.1.cells∧OwnE jbE w' w.heap.size B d R.1.jobs∧Below w.heap.size w w'
theorem DkPost.zero{w w':World}{z:Int}(hb:Below w.heap.size w w'):DkPost (.zero,z) w (.returned (.tuple #[.agg #[.slice none 0 0,.slice none 0 0,.int .i64 0],.int .i64 z])) w':=⟨none,0,none,0,rfl,OwnE.nil,OwnE.nil,hb⟩
theorem jobT_look{w:World}{M n:Nat}{m:Bool × Int→Option Int}(h:MapT jobT w M n m)(f:Bool)(x:Int)(hx:(Lit.int .i64 x).wf=true){v:Bool}(hv:(m (f,x)).isSome=v) :
  (Instr.lookup 220 (.map (some M)) (.agg #[.bool f,.int .i64 x]) true).run Tryz.prog w=.ok (.tuple #[.int .i64 ((m (f,x)).getD 0),.bool v]) w:=
 h.look_ok (k:=(f,x)) hx rfl hv
theorem dSubmit_any(A B:Option Addr)(c d:Nat)(k0:Dsk)(j:Jb)(w:World)(ha:SR ctE w A k0.cells)(hb:SR jbE w B k0.jobs)(la:k0.cells.length≤1000)(lb:k0.jobs.length≤1000) :
  Calls Tryz.prog 160 #[dkV A c B d k0,jbV j] w (DkPost (addD k0 j) w):=by
 have HA:=Lib.hid ha;have HB:=Lib.hid hb;obtain⟨⟨z,n0⟩,hz⟩:∃ r,chkD k0=r:=⟨_,rfl⟩;have HZ:=Lib.hid hz;obtain⟨jw,js,jf,⟨c0,c1_,c2_,c3,c4,c5_,c6,c7⟩⟩:=j;show Calls _ _ #[.agg #[.slice A k0.cells.length c,.slice B k0.jobs.length d,.int .i64 k0.room],.agg (zkj jw js jf c0 c1_ c2_ c3 c4 c5_ c6 c7).toArray] _ _;clear ha hb;obtain⟨X,hX⟩:∃ X,((w.alloc (.cells #[.slice A k0.cells.length c,.slice B k0.jobs.length d,.int .i64 k0.room] 31)).alloc (.cells (zkj jw js jf c0 c1_ c2_ c3 c4 c5_ c6 c7).toArray 115)).alloc (.cells #[.slice none 0 0,.slice none 0 0,.int .i64 0] 31)=X:=⟨_,rfl⟩;have kD:Blk X w.heap.size 31 #[.slice A k0.cells.length c,.slice B k0.jobs.length d,.int .i64 k0.room]:=by rw[←hX];exact zbk
 have kJ:Blk X (w.heap.size+1) 115 (zkj jw js jf c0 c1_ c2_ c3 c4 c5_ c6 c7).toArray:=by rw[←hX];exact(Blk.new_ (by simp) rfl:Blk _ (w.heap.size+1) _ _).alloc_ _
 have kT:Blk X (w.heap.size+2) 31 #[.slice none 0 0,.slice none 0 0,.int .i64 0]:=by rw[←hX];exact Blk.new_ (by simp) rfl
 have BX:Below w.heap.size w X:=by rw[←hX];exact zbl
 have hXs:X.heap.size=w.heap.size+3:=by rw[←hX];simp
 by_cases z0:z=0
 ·subst z0
  have hok:=(chkD_ok (d:=k0)).1 (by rw[hz]);have HOK:=Lib.hid hok;have HC:=hok.cells
  cases hin:inD k0 js jf
  ·have HIN:Hid (decide (0≤js∧js<(k0.cells.length:Int)∧0≤jf∧jf<256)=false):=hin
   have HE:Hid (addD k0 ⟨jw,js,jf,⟨c0,c1_,c2_,c3,c4,c5_,c6,c7⟩⟩=(.zero,2)):=by show _=_;unfold addD;rw[hz,if_neg (by simp),hin];rfl
   rw[HE.out];clear hz hok hin HC;obtain⟨q0,q1,q2⟩:=zc3 kD;obtain⟨j0,j1,j2,j3,j4,j5,j6,j7,j8,j9,j10⟩:=zc11 kJ;have zD:=kD.lt
   go_enter Tryz.func160,Tryz.ntmps160
   go_wp2_with fail;(try rw[hX]);clear q0 q1 q2 j0 j1 j2 j3 j4 j5 j6 j7 j8 j9 j10 zD;refine (dCheck_any A B c d k0 X (HB.out.ext BX) (by omega) (by omega) HZ.out).mono ?_;rintro e1 w1 ⟨rfl,hb1⟩;have B1:=zbt BX hb1;replace kD:=kD.below_ hb1 kD.lt;replace kJ:=kJ.below_ hb1 kJ.lt;replace kT:=kT.below_ hb1 kT.lt;have zD:=kD.lt;have zJ:=kJ.lt;have zT:=kT.lt;obtain⟨q0,q1,q2⟩:=zc3 kD;obtain⟨j0,j1,j2,j3,j4,j5,j6,j7,j8,j9,j10⟩:=zc11 kJ;obtain⟨t0,t1,t2⟩:=zc3 kT;obtain⟨tf0,tf1,tf2,-⟩:=zf kT;go_wp2_with fail;refine (dIn_any A B c d k0.cells.length k0.jobs.length k0.room js jf w1).mono ?_;rw[HIN.out];rintro e2 w2 ⟨rfl,hb2⟩;have B2:=zbt B1 hb2;replace kD:=kD.below_ hb2 kD.lt;replace kJ:=kJ.below_ hb2 kJ.lt;replace kT:=kT.below_ hb2 kT.lt;have zD:=kD.lt;have zJ:=kJ.lt;have zT:=kT.lt;clear t0 t1 t2 tf0 tf1 tf2 q0 q1 q2 j0 j1 j2 j3 j4 j5 j6 j7 j8 j9 j10;obtain⟨q0,q1,q2⟩:=zc3 kD;obtain⟨j0,j1,j2,j3,j4,j5,j6,j7,j8,j9,j10⟩:=zc11 kJ;obtain⟨t0,t1,t2⟩:=zc3 kT;obtain⟨tf0,tf1,tf2,-⟩:=zf kT;go_wp2_with fail;obtain⟨W,hW⟩:∃ W,((w2.setCell ⟨w.heap.size+2,0,none⟩ (.slice none 0 0)).setCell ⟨w.heap.size+2,1,none⟩ (.slice none 0 0)).setCell ⟨w.heap.size+2,2,none⟩ (.int .i64 0)=W:=⟨_,rfl⟩;have kW:Blk W (w.heap.size+2) 31 #[.slice none 0 0,.slice none 0 0,.int .i64 0]:=by rw[←hW];exact(((kT.set_ 0 _).set_ 1 _).set_ 2 _)
   have bW:Below w.heap.size w W:=by rw[←hW];exact((B2.setCell (p:=⟨w.heap.size+2,0,none⟩) (by show w.heap.size≤w.heap.size+2;omega) _).setCell (p:=⟨w.heap.size+2,1,none⟩) (by show w.heap.size≤w.heap.size+2;omega) _).setCell (p:=⟨w.heap.size+2,2,none⟩) (by show w.heap.size≤w.heap.size+2;omega) _
   rw[hW];clear hW t0 t1 t2;refine bodyPost_ret (by simp[results,Tryz.results160,go_sem,zc3 kW] <;> rfl) rfl ?_;exact DkPost.zero bW
  ·have HIN:Hid (decide (0≤js∧js<(k0.cells.length:Int)∧0≤jf∧jf<256)=true):=hin
   have hi2:0≤js∧js<(k0.cells.length:Int)∧0≤jf∧jf<256:=by simpa [inD] using hin
   have HWS:Hid ((Lit.int .i64 js).wf=true):=wf_i (by omega);have HWF:Hid ((Lit.int .i64 jf).wf=true):=wf_i (by omega)
   cases hh1:hasK k0.jobs (false,js)
   ·have HH1:=Lib.hid hh1
    cases hh2:hasK k0.jobs (true,jf)
    ·have HH2:=Lib.hid hh2
     by_cases hr:k0.room≤k0.jobs.length
     ·have HE:Hid (addD k0 ⟨jw,js,jf,⟨c0,c1_,c2_,c3,c4,c5_,c6,c7⟩⟩=(.zero,5)):=by show _=_;unfold addD;rw[hz,if_neg (by simp),hin,if_neg (by simp),hit_has,hh1,hh2,if_neg (by simp),if_pos hr]
      have hrb:decide ((k0.jobs.length:Int)≥k0.room)=true:=by simpa using hr
      rw[HE.out];clear hz hok hin hi2 hh1 hh2 hr HC;obtain⟨q0,q1,q2⟩:=zc3 kD;obtain⟨j0,j1,j2,j3,j4,j5,j6,j7,j8,j9,j10⟩:=zc11 kJ;have zD:=kD.lt
      go_enter Tryz.func160,Tryz.ntmps160
      go_wp2_with fail;(try rw[hX]);clear q0 q1 q2 j0 j1 j2 j3 j4 j5 j6 j7 j8 j9 j10 zD;refine (dCheck_any A B c d k0 X (HB.out.ext BX) (by omega) (by omega) HZ.out).mono ?_;rintro e1 w1 ⟨rfl,hb1⟩;have B1:=zbt BX hb1;replace kD:=kD.below_ hb1 kD.lt;replace kJ:=kJ.below_ hb1 kJ.lt;replace kT:=kT.below_ hb1 kT.lt;have zD:=kD.lt;have zJ:=kJ.lt;have zT:=kT.lt;obtain⟨q0,q1,q2⟩:=zc3 kD;obtain⟨j0,j1,j2,j3,j4,j5,j6,j7,j8,j9,j10⟩:=zc11 kJ;obtain⟨t0,t1,t2⟩:=zc3 kT;obtain⟨tf0,tf1,tf2,-⟩:=zf kT;go_wp2_with fail;refine (dIn_any A B c d k0.cells.length k0.jobs.length k0.room js jf w1).mono ?_;rw[HIN.out];rintro e2 w2 ⟨rfl,hb2⟩;have B2:=zbt B1 hb2;replace kD:=kD.below_ hb2 kD.lt;replace kJ:=kJ.below_ hb2 kJ.lt;replace kT:=kT.below_ hb2 kT.lt;have zD:=kD.lt;have zJ:=kJ.lt;have zT:=kT.lt;clear t0 t1 t2 tf0 tf1 tf2 q0 q1 q2 j0 j1 j2 j3 j4 j5 j6 j7 j8 j9 j10;obtain⟨q0,q1,q2⟩:=zc3 kD;obtain⟨j0,j1,j2,j3,j4,j5,j6,j7,j8,j9,j10⟩:=zc11 kJ;obtain⟨t0,t1,t2⟩:=zc3 kT;obtain⟨tf0,tf1,tf2,-⟩:=zf kT;go_wp2_with fail;refine (dJobs_any A B c d k0 w2 (HB.out.ext B2) HOK.out).mono ?_;rintro e3 w3 ⟨M,cnt,m,rfl,hM,hMs,hb3⟩;have B3:=zbt B2 hb3;replace kD:=kD.below_ hb3 kD.lt;replace kJ:=kJ.below_ hb3 kJ.lt;replace kT:=kT.below_ hb3 kT.lt;have zD:=kD.lt;have zJ:=kJ.lt;have zT:=kT.lt;clear t0 t1 t2 tf0 tf1 tf2 q0 q1 q2 j0 j1 j2 j3 j4 j5 j6 j7 j8 j9 j10;obtain⟨q0,q1,q2⟩:=zc3 kD;obtain⟨j0,j1,j2,j3,j4,j5,j6,j7,j8,j9,j10⟩:=zc11 kJ;obtain⟨t0,t1,t2⟩:=zc3 kT;obtain⟨tf0,tf1,tf2,-⟩:=zf kT;have L7:=jobT_look hM false js HWS.out (hMs _);have L8:=jobT_look hM true jf HWF.out (hMs _);rw[HH1.out] at L7;rw[HH2.out] at L8;go_wp2_with fail;obtain⟨W,hW⟩:∃ W,((w3.setCell ⟨w.heap.size+2,0,none⟩ (.slice none 0 0)).setCell ⟨w.heap.size+2,1,none⟩ (.slice none 0 0)).setCell ⟨w.heap.size+2,2,none⟩ (.int .i64 0)=W:=⟨_,rfl⟩;have kW:Blk W (w.heap.size+2) 31 #[.slice none 0 0,.slice none 0 0,.int .i64 0]:=by rw[←hW];exact(((kT.set_ 0 _).set_ 1 _).set_ 2 _)
      have bW:Below w.heap.size w W:=by rw[←hW];exact((B3.setCell (p:=⟨w.heap.size+2,0,none⟩) (by show w.heap.size≤w.heap.size+2;omega) _).setCell (p:=⟨w.heap.size+2,1,none⟩) (by show w.heap.size≤w.heap.size+2;omega) _).setCell (p:=⟨w.heap.size+2,2,none⟩) (by show w.heap.size≤w.heap.size+2;omega) _
      rw[hW];clear hW t0 t1 t2;refine bodyPost_ret (by simp[results,Tryz.results160,go_sem,zc3 kW] <;> rfl) rfl ?_;exact DkPost.zero bW
     ·have HE:Hid (addD k0 ⟨jw,js,jf,⟨c0,c1_,c2_,c3,c4,c5_,c6,c7⟩⟩=(⟨k0.cells,k0.jobs++[⟨jw,js,jf,⟨c0,c1_,c2_,c3,c4,c5_,c6,c7⟩⟩],k0.room⟩,0)):=by show _=_;unfold addD;rw[hz,if_neg (by simp),hin,if_neg (by simp),hit_has,hh1,hh2,if_neg (by simp),if_neg hr]
      have hrb:decide ((k0.jobs.length:Int)≥k0.room)=false:=by simpa using hr
      have H1:Hid ((k0.jobs++[(⟨jw,js,jf,⟨c0,c1_,c2_,c3,c4,c5_,c6,c7⟩⟩:Jb)]).length=k0.jobs.length+1):=by show _=_;simp
      rw[HE.out];clear hz hok hin hi2 hh1 hh2 hr HC;obtain⟨q0,q1,q2⟩:=zc3 kD;obtain⟨j0,j1,j2,j3,j4,j5,j6,j7,j8,j9,j10⟩:=zc11 kJ;have zD:=kD.lt
      go_enter Tryz.func160,Tryz.ntmps160
      go_wp2_with fail;(try rw[hX]);clear q0 q1 q2 j0 j1 j2 j3 j4 j5 j6 j7 j8 j9 j10 zD;refine (dCheck_any A B c d k0 X (HB.out.ext BX) (by omega) (by omega) HZ.out).mono ?_;rintro e1 w1 ⟨rfl,hb1⟩;have B1:=zbt BX hb1;replace kD:=kD.below_ hb1 kD.lt;replace kJ:=kJ.below_ hb1 kJ.lt;replace kT:=kT.below_ hb1 kT.lt;have zD:=kD.lt;have zJ:=kJ.lt;have zT:=kT.lt;obtain⟨q0,q1,q2⟩:=zc3 kD;obtain⟨j0,j1,j2,j3,j4,j5,j6,j7,j8,j9,j10⟩:=zc11 kJ;obtain⟨t0,t1,t2⟩:=zc3 kT;obtain⟨tf0,tf1,tf2,-⟩:=zf kT;go_wp2_with fail;refine (dIn_any A B c d k0.cells.length k0.jobs.length k0.room js jf w1).mono ?_;rw[HIN.out];rintro e2 w2 ⟨rfl,hb2⟩;have B2:=zbt B1 hb2;replace kD:=kD.below_ hb2 kD.lt;replace kJ:=kJ.below_ hb2 kJ.lt;replace kT:=kT.below_ hb2 kT.lt;have zD:=kD.lt;have zJ:=kJ.lt;have zT:=kT.lt;clear t0 t1 t2 tf0 tf1 tf2 q0 q1 q2 j0 j1 j2 j3 j4 j5 j6 j7 j8 j9 j10;obtain⟨q0,q1,q2⟩:=zc3 kD;obtain⟨j0,j1,j2,j3,j4,j5,j6,j7,j8,j9,j10⟩:=zc11 kJ;obtain⟨t0,t1,t2⟩:=zc3 kT;obtain⟨tf0,tf1,tf2,-⟩:=zf kT;go_wp2_with fail;refine (dJobs_any A B c d k0 w2 (HB.out.ext B2) HOK.out).mono ?_;rintro e3 w3 ⟨M,cnt,m,rfl,hM,hMs,hb3⟩;have B3:=zbt B2 hb3;replace kD:=kD.below_ hb3 kD.lt;replace kJ:=kJ.below_ hb3 kJ.lt;replace kT:=kT.below_ hb3 kT.lt;have zD:=kD.lt;have zJ:=kJ.lt;have zT:=kT.lt;clear t0 t1 t2 tf0 tf1 tf2 q0 q1 q2 j0 j1 j2 j3 j4 j5 j6 j7 j8 j9 j10;obtain⟨q0,q1,q2⟩:=zc3 kD;obtain⟨j0,j1,j2,j3,j4,j5,j6,j7,j8,j9,j10⟩:=zc11 kJ;obtain⟨t0,t1,t2⟩:=zc3 kT;obtain⟨tf0,tf1,tf2,-⟩:=zf kT;have L7:=jobT_look hM false js HWS.out (hMs _);have L8:=jobT_look hM true jf HWF.out (hMs _);rw[HH1.out] at L7;rw[HH2.out] at L8;go_wp2_with fail;refine (dClone_any A B c d k0 w3 (HA.out.ext B3) (HB.out.ext B3) (by omega) (by omega)).mono ?_;rintro e4 w4 ⟨A1,c1,A2,c2,rfl,o1,o2,hb4⟩;have B4:=zbt B3 hb4;replace kD:=kD.below_ hb4 kD.lt;replace kJ:=kJ.below_ hb4 kJ.lt;replace kT:=kT.below_ hb4 kT.lt;have zD:=kD.lt;have zJ:=kJ.lt;have zT:=kT.lt;clear t0 t1 t2 tf0 tf1 tf2 q0 q1 q2 j0 j1 j2 j3 j4 j5 j6 j7 j8 j9 j10;have hs34:=hb4.size;obtain⟨q0,q1,q2⟩:=zc3 kD;obtain⟨j0,j1,j2,j3,j4,j5,j6,j7,j8,j9,j10⟩:=zc11 kJ;obtain⟨t0,t1,t2⟩:=zc3 kT;obtain⟨tf0,tf1,tf2,-⟩:=zf kT;unfold dkV;have hne:w.heap.size+2≠w4.heap.size:=by omega
      go_wp2_with (first | (at_builtin;refine wpList_appE jbE rfl (.tmp 63) (.tmp 65) _ rfl rfl _ w3.heap.size (by simp;omega) A2 c2 k0.jobs.length k0.jobs rfl (o2.ext zbl) (some ⟨w4.heap.size+1,0,none⟩) 1 1 [⟨jw,js,jf,⟨c0,c1_,c2_,c3,c4,c5_,c6,c7⟩⟩] rfl (SR.of_blk (E:=jbE) (l:=[⟨jw,js,jf,⟨c0,c1_,c2_,c3,c4,c5_,c6,c7⟩⟩]) (t:=115) (Blk.new_ (by simp) rfl)) (by simp) (by simp;omega) rfl rfl ?_;rw[H1.out];intro A5 c5 w5 hO5 hb5 hk5 hs5;have k13:Blk w5 w4.heap.size 31 #[.slice A1 k0.cells.length c1,.slice A2 k0.jobs.length c2,.int .i64 k0.room]:=hk5.blk (Blk.alloc_ (Blk.new_ rfl rfl) _) (o2.not_ (.inr (Nat.le_refl _)));replace kT:=((kT.alloc_ _).alloc_ _).below_ hb5 (by omega);have zT5:=kT.lt;have z13:=k13.lt;clear t0 t1 t2 tf0 tf1 tf2;have t0:=kT.cell_ 0;have t1:=kT.cell_ 1;have t2:=kT.cell_ 2;have tf0:=kT.frozen_ 0;have tf1:=kT.frozen_ 1;have tf2:=kT.frozen_ 2;have v0:=k13.cell_ 0;have v1:=k13.cell_ 1;have v2:=k13.cell_ 2;have vf:=k13.frozen_ 1;simp only[List.getElem?_toArray,List.getElem?_cons_zero,List.getElem?_cons_succ] at t0 t1 t2 v0 v1 v2))
      obtain⟨W,hW⟩:∃ W,(((w5.setCell ⟨w4.heap.size,1,none⟩ (.slice A5 (k0.jobs.length+1) c5)).setCell ⟨w.heap.size+2,0,none⟩ (.slice A1 k0.cells.length c1)).setCell ⟨w.heap.size+2,1,none⟩ (.slice A5 (k0.jobs.length+1) c5)).setCell ⟨w.heap.size+2,2,none⟩ (.int .i64 k0.room)=W:=⟨_,rfl⟩;have o15:OwnE ctE w5 w3.heap.size A1 c1 k0.cells:=(o1.ext zbl).keptT (E:=ctE) (E':=jbE) (o2.ext zbl) (by decide) hk5;have kS5:Blk (w5.setCell ⟨w4.heap.size,1,none⟩ (.slice A5 (k0.jobs.length+1) c5)) (w.heap.size+2) 31 #[.slice none 0 0,.slice none 0 0,.int .i64 0]:=kT.far_ (by exact hne) _;have o1W:OwnE ctE W w3.heap.size A1 c1 k0.cells:=by rw[←hW];exact(((o15.farB k13 (by decide) 1 _).farB kS5 (by decide) 0 _).farB (kS5.set_ 0 _) (by decide) 1 _).farB ((kS5.set_ 0 _).set_ 1 _) (by decide) 2 _
      have o2W:OwnE jbE W w3.heap.size A5 c5 (k0.jobs++[⟨jw,js,jf,⟨c0,c1_,c2_,c3,c4,c5_,c6,c7⟩⟩]):=by rw[←hW];exact(((hO5.farB k13 (by decide) 1 _).farB kS5 (by decide) 0 _).farB (kS5.set_ 0 _) (by decide) 1 _).farB ((kS5.set_ 0 _).set_ 1 _) (by decide) 2 _
      have kW:Blk W (w.heap.size+2) 31 #[.slice A1 k0.cells.length c1,.slice A5 (k0.jobs.length+1) c5,.int .i64 k0.room]:=by rw[←hW];exact((kS5.set_ 0 _).set_ 1 _).set_ 2 _
      have B5:Below w.heap.size w w5:=((B4.alloc (by omega) _).alloc (by simp;omega) _).trans (hb5.mono (by omega));have bW:Below w.heap.size w W:=by rw[←hW];exact(((B5.setCell (p:=⟨w4.heap.size,1,none⟩) (by show w.heap.size≤w4.heap.size;omega) _).setCell (p:=⟨w.heap.size+2,0,none⟩) (by show w.heap.size≤w.heap.size+2;omega) _).setCell (p:=⟨w.heap.size+2,1,none⟩) (by show w.heap.size≤w.heap.size+2;omega) _).setCell (p:=⟨w.heap.size+2,2,none⟩) (by show w.heap.size≤w.heap.size+2;omega) _
      rw[hW];clear hW;refine bodyPost_ret (by simp[results,Tryz.results160,go_sem,zc3 kW] <;> rfl) rfl ?_;exact⟨A1,c1,A5,c5,by simp[dkV],o1W.base_ (by omega),o2W.base_ (by omega),bW⟩
    ·have HH2:=Lib.hid hh2
     have HE:Hid (addD k0 ⟨jw,js,jf,⟨c0,c1_,c2_,c3,c4,c5_,c6,c7⟩⟩=(.zero,10)):=by show _=_;unfold addD;rw[hz,if_neg (by simp),hin,if_neg (by simp),hit_has,hh1,hh2];rfl
     rw[HE.out];clear hz hok hin hi2 hh1 hh2 HC;obtain⟨q0,q1,q2⟩:=zc3 kD;obtain⟨j0,j1,j2,j3,j4,j5,j6,j7,j8,j9,j10⟩:=zc11 kJ;have zD:=kD.lt
     go_enter Tryz.func160,Tryz.ntmps160
     go_wp2_with fail;(try rw[hX]);clear q0 q1 q2 j0 j1 j2 j3 j4 j5 j6 j7 j8 j9 j10 zD;refine (dCheck_any A B c d k0 X (HB.out.ext BX) (by omega) (by omega) HZ.out).mono ?_;rintro e1 w1 ⟨rfl,hb1⟩;have B1:=zbt BX hb1;replace kD:=kD.below_ hb1 kD.lt;replace kJ:=kJ.below_ hb1 kJ.lt;replace kT:=kT.below_ hb1 kT.lt;have zD:=kD.lt;have zJ:=kJ.lt;have zT:=kT.lt;obtain⟨q0,q1,q2⟩:=zc3 kD;obtain⟨j0,j1,j2,j3,j4,j5,j6,j7,j8,j9,j10⟩:=zc11 kJ;obtain⟨t0,t1,t2⟩:=zc3 kT;obtain⟨tf0,tf1,tf2,-⟩:=zf kT;go_wp2_with fail;refine (dIn_any A B c d k0.cells.length k0.jobs.length k0.room js jf w1).mono ?_;rw[HIN.out];rintro e2 w2 ⟨rfl,hb2⟩;have B2:=zbt B1 hb2;replace kD:=kD.below_ hb2 kD.lt;replace kJ:=kJ.below_ hb2 kJ.lt;replace kT:=kT.below_ hb2 kT.lt;have zD:=kD.lt;have zJ:=kJ.lt;have zT:=kT.lt;clear t0 t1 t2 tf0 tf1 tf2 q0 q1 q2 j0 j1 j2 j3 j4 j5 j6 j7 j8 j9 j10;obtain⟨q0,q1,q2⟩:=zc3 kD;obtain⟨j0,j1,j2,j3,j4,j5,j6,j7,j8,j9,j10⟩:=zc11 kJ;obtain⟨t0,t1,t2⟩:=zc3 kT;obtain⟨tf0,tf1,tf2,-⟩:=zf kT;go_wp2_with fail;refine (dJobs_any A B c d k0 w2 (HB.out.ext B2) HOK.out).mono ?_;rintro e3 w3 ⟨M,cnt,m,rfl,hM,hMs,hb3⟩;have B3:=zbt B2 hb3;replace kD:=kD.below_ hb3 kD.lt;replace kJ:=kJ.below_ hb3 kJ.lt;replace kT:=kT.below_ hb3 kT.lt;have zD:=kD.lt;have zJ:=kJ.lt;have zT:=kT.lt;clear t0 t1 t2 tf0 tf1 tf2 q0 q1 q2 j0 j1 j2 j3 j4 j5 j6 j7 j8 j9 j10;obtain⟨q0,q1,q2⟩:=zc3 kD;obtain⟨j0,j1,j2,j3,j4,j5,j6,j7,j8,j9,j10⟩:=zc11 kJ;obtain⟨t0,t1,t2⟩:=zc3 kT;obtain⟨tf0,tf1,tf2,-⟩:=zf kT;have L7:=jobT_look hM false js HWS.out (hMs _);have L8:=jobT_look hM true jf HWF.out (hMs _);rw[HH1.out] at L7;rw[HH2.out] at L8;go_wp2_with fail;obtain⟨W,hW⟩:∃ W,((w3.setCell ⟨w.heap.size+2,0,none⟩ (.slice none 0 0)).setCell ⟨w.heap.size+2,1,none⟩ (.slice none 0 0)).setCell ⟨w.heap.size+2,2,none⟩ (.int .i64 0)=W:=⟨_,rfl⟩;have kW:Blk W (w.heap.size+2) 31 #[.slice none 0 0,.slice none 0 0,.int .i64 0]:=by rw[←hW];exact(((kT.set_ 0 _).set_ 1 _).set_ 2 _)
     have bW:Below w.heap.size w W:=by rw[←hW];exact((B3.setCell (p:=⟨w.heap.size+2,0,none⟩) (by show w.heap.size≤w.heap.size+2;omega) _).setCell (p:=⟨w.heap.size+2,1,none⟩) (by show w.heap.size≤w.heap.size+2;omega) _).setCell (p:=⟨w.heap.size+2,2,none⟩) (by show w.heap.size≤w.heap.size+2;omega) _
     rw[hW];clear hW t0 t1 t2;refine bodyPost_ret (by simp[results,Tryz.results160,go_sem,zc3 kW] <;> rfl) rfl ?_;exact DkPost.zero bW
   ·have HH1:=Lib.hid hh1
    have HE:Hid (addD k0 ⟨jw,js,jf,⟨c0,c1_,c2_,c3,c4,c5_,c6,c7⟩⟩=(.zero,10)):=by show _=_;unfold addD;rw[hz,if_neg (by simp),hin,if_neg (by simp),hit_has,hh1];rfl
    rw[HE.out];clear hz hok hin hi2 hh1 HC;obtain⟨q0,q1,q2⟩:=zc3 kD;obtain⟨j0,j1,j2,j3,j4,j5,j6,j7,j8,j9,j10⟩:=zc11 kJ;have zD:=kD.lt
    go_enter Tryz.func160,Tryz.ntmps160
    go_wp2_with fail;(try rw[hX]);clear q0 q1 q2 j0 j1 j2 j3 j4 j5 j6 j7 j8 j9 j10 zD;refine (dCheck_any A B c d k0 X (HB.out.ext BX) (by omega) (by omega) HZ.out).mono ?_;rintro e1 w1 ⟨rfl,hb1⟩;have B1:=zbt BX hb1;replace kD:=kD.below_ hb1 kD.lt;replace kJ:=kJ.below_ hb1 kJ.lt;replace kT:=kT.below_ hb1 kT.lt;have zD:=kD.lt;have zJ:=kJ.lt;have zT:=kT.lt;obtain⟨q0,q1,q2⟩:=zc3 kD;obtain⟨j0,j1,j2,j3,j4,j5,j6,j7,j8,j9,j10⟩:=zc11 kJ;obtain⟨t0,t1,t2⟩:=zc3 kT;obtain⟨tf0,tf1,tf2,-⟩:=zf kT;go_wp2_with fail;refine (dIn_any A B c d k0.cells.length k0.jobs.length k0.room js jf w1).mono ?_;rw[HIN.out];rintro e2 w2 ⟨rfl,hb2⟩;have B2:=zbt B1 hb2;replace kD:=kD.below_ hb2 kD.lt;replace kJ:=kJ.below_ hb2 kJ.lt;replace kT:=kT.below_ hb2 kT.lt;have zD:=kD.lt;have zJ:=kJ.lt;have zT:=kT.lt;clear t0 t1 t2 tf0 tf1 tf2 q0 q1 q2 j0 j1 j2 j3 j4 j5 j6 j7 j8 j9 j10;obtain⟨q0,q1,q2⟩:=zc3 kD;obtain⟨j0,j1,j2,j3,j4,j5,j6,j7,j8,j9,j10⟩:=zc11 kJ;obtain⟨t0,t1,t2⟩:=zc3 kT;obtain⟨tf0,tf1,tf2,-⟩:=zf kT;go_wp2_with fail;refine (dJobs_any A B c d k0 w2 (HB.out.ext B2) HOK.out).mono ?_;rintro e3 w3 ⟨M,cnt,m,rfl,hM,hMs,hb3⟩;have B3:=zbt B2 hb3;replace kD:=kD.below_ hb3 kD.lt;replace kJ:=kJ.below_ hb3 kJ.lt;replace kT:=kT.below_ hb3 kT.lt;have zD:=kD.lt;have zJ:=kJ.lt;have zT:=kT.lt;clear t0 t1 t2 tf0 tf1 tf2 q0 q1 q2 j0 j1 j2 j3 j4 j5 j6 j7 j8 j9 j10;obtain⟨q0,q1,q2⟩:=zc3 kD;obtain⟨j0,j1,j2,j3,j4,j5,j6,j7,j8,j9,j10⟩:=zc11 kJ;obtain⟨t0,t1,t2⟩:=zc3 kT;obtain⟨tf0,tf1,tf2,-⟩:=zf kT;have L7:=jobT_look hM false js HWS.out (hMs _);have L8:=jobT_look hM true jf HWF.out (hMs _);rw[HH1.out] at L7;go_wp2_with fail;obtain⟨W,hW⟩:∃ W,((w3.setCell ⟨w.heap.size+2,0,none⟩ (.slice none 0 0)).setCell ⟨w.heap.size+2,1,none⟩ (.slice none 0 0)).setCell ⟨w.heap.size+2,2,none⟩ (.int .i64 0)=W:=⟨_,rfl⟩;have kW:Blk W (w.heap.size+2) 31 #[.slice none 0 0,.slice none 0 0,.int .i64 0]:=by rw[←hW];exact(((kT.set_ 0 _).set_ 1 _).set_ 2 _)
    have bW:Below w.heap.size w W:=by rw[←hW];exact((B3.setCell (p:=⟨w.heap.size+2,0,none⟩) (by show w.heap.size≤w.heap.size+2;omega) _).setCell (p:=⟨w.heap.size+2,1,none⟩) (by show w.heap.size≤w.heap.size+2;omega) _).setCell (p:=⟨w.heap.size+2,2,none⟩) (by show w.heap.size≤w.heap.size+2;omega) _
    rw[hW];clear hW t0 t1 t2;refine bodyPost_ret (by simp[results,Tryz.results160,go_sem,zc3 kW] <;> rfl) rfl ?_;exact DkPost.zero bW
 ·have HE:Hid (addD k0 ⟨jw,js,jf,⟨c0,c1_,c2_,c3,c4,c5_,c6,c7⟩⟩=(.zero,z)):=by show _=_;unfold addD;rw[hz,if_pos z0]
  have zb:(z != 0)=true:=by simpa using z0
  rw[HE.out];clear hz z0;obtain⟨q0,q1,q2⟩:=zc3 kD;obtain⟨j0,j1,j2,j3,j4,j5,j6,j7,j8,j9,j10⟩:=zc11 kJ;have zD:=kD.lt
  go_enter Tryz.func160,Tryz.ntmps160
  go_wp2_with fail;(try rw[hX]);clear q0 q1 q2 j0 j1 j2 j3 j4 j5 j6 j7 j8 j9 j10 zD;refine (dCheck_any A B c d k0 X (HB.out.ext BX) (by omega) (by omega) HZ.out).mono ?_;rintro e1 w1 ⟨rfl,hb1⟩;have B1:=zbt BX hb1;replace kD:=kD.below_ hb1 kD.lt;replace kJ:=kJ.below_ hb1 kJ.lt;replace kT:=kT.below_ hb1 kT.lt;have zD:=kD.lt;have zJ:=kJ.lt;have zT:=kT.lt;obtain⟨q0,q1,q2⟩:=zc3 kD;obtain⟨j0,j1,j2,j3,j4,j5,j6,j7,j8,j9,j10⟩:=zc11 kJ;obtain⟨t0,t1,t2⟩:=zc3 kT;obtain⟨tf0,tf1,tf2,-⟩:=zf kT;go_wp2_with fail;obtain⟨W,hW⟩:∃ W,((w1.setCell ⟨w.heap.size+2,0,none⟩ (.slice none 0 0)).setCell ⟨w.heap.size+2,1,none⟩ (.slice none 0 0)).setCell ⟨w.heap.size+2,2,none⟩ (.int .i64 0)=W:=⟨_,rfl⟩;have kW:Blk W (w.heap.size+2) 31 #[.slice none 0 0,.slice none 0 0,.int .i64 0]:=by rw[←hW];exact(((kT.set_ 0 _).set_ 1 _).set_ 2 _)
  have bW:Below w.heap.size w W:=by rw[←hW];exact((B1.setCell (p:=⟨w.heap.size+2,0,none⟩) (by show w.heap.size≤w.heap.size+2;omega) _).setCell (p:=⟨w.heap.size+2,1,none⟩) (by show w.heap.size≤w.heap.size+2;omega) _).setCell (p:=⟨w.heap.size+2,2,none⟩) (by show w.heap.size≤w.heap.size+2;omega) _
  rw[hW];clear hW t0 t1 t2;refine bodyPost_ret (by simp[results,Tryz.results160,go_sem,zc3 kW] <;> rfl) rfl ?_;exact DkPost.zero bW
section
variable {P : Program} {α : Type} (E : Elt P α)
theorem OwnR.pre{E:Elt P α}{w:World}{base g c n:Nat}{l:List α}(h:OwnR E w base (.slice (some ⟨g,0,none⟩) n c) l)(i:Nat)(hi:i<l.length):OwnR E w base (.slice (some ⟨g,0,none⟩) i c) (l.take i):=by
 obtain⟨g',cur,e,rfl,hg,hb,h1,h2,h3,h4⟩:=h.blk (by omega);injection e with e
 injection e with e
 subst e;have hl:(l.take i).length=i:=by rw[List.length_take];omega
 unfold OwnR;rw[hl];refine⟨by rw[E.flat_length,hl],.inr ⟨g,c,cur,rfl,hg,hb,by omega,h2,h3,?_⟩⟩
 have e1:cur.toList.take (i*E.sz)=(cur.toList.take (l.length*E.sz)).take (i*E.sz):=by
  rw[List.take_take,Nat.min_eq_left (Nat.mul_le_mul_right _ (by omega))]
 have e2:E.flat l=E.flat (l.take i)++E.flat (l.drop i):=by rw[←E.flat_append,List.take_append_drop]
 have e3:(E.flat (l.take i)).length=i*E.sz:=by rw[E.flat_length,hl]
 rw[e1,h4,e2,←e3,List.take_left]
theorem run_delA{w:World}{base g c:Nat}{l:List α}(ty:TypeId)(h:OwnR E w base (.slice (some ⟨g,0,none⟩) l.length c) l)(i:Nat)(hi:i<l.length) :
  ∃ w',(Builtin.append_ #[E.s,E.s] ty #[.slice (some ⟨g,0,none⟩) i c,.slice (if c=i+1 then some ⟨g,0,none⟩ else (some (⟨g,0,none⟩:Addr)).map (fun a=>a.add ((i+1)*E.sz))) (l.length - (i+1)) (c - (i+1))]).run P w=.ok (.slice (some ⟨g,0,none⟩) (l.length - 1) c) w' ∧
   OwnR E w' base (.slice (some ⟨g,0,none⟩) (l.length - 1) c) (l.eraseIdx i)∧w.grownBy w' (some g)∧w'.heap.size=w.heap.size:=by
 have hpre:=h.pre i hi;obtain⟨g',cur,e,_,hg,hb,h1,h2,h3,h4⟩:=h.blk (by omega);injection e with e
 injection e with e
 subst e;obtain⟨i0,hi0,z0,z1,z2⟩:=info_parts E.hi;have hpos:=E.pos
 by_cases hs:l.length=i+1
 ·generalize (if c=i+1 then some ⟨g,0,none⟩ else (some (⟨g,0,none⟩:Addr)).map (fun a=>a.add ((i+1)*E.sz)))=A1
  have hfc:=fun n=>firstR_none (P:=P) w A1 (c - (i+1)) n
  refine⟨w,?_,?_,⟨rfl,rfl,rfl,Nat.le_refl _,fun _ _ _=>rfl⟩,rfl⟩
  ·rw[show l.length - (i+1)=0 by omega,show l.length - 1=i by omega]
   have hic:i≤c:=by omega
   simp[Builtin.append_,run_underlying E.hs,sizeOf,typeInfo,hi0,Builtin.lenOf,hfc,hic,storeCells]
  ·rw[show l.length - 1=i by omega,List.eraseIdx_eq_take_drop_succ,List.drop_of_length_le (by omega),List.append_nil]
   exact hpre
 ·have hc:c≠i+1:=by omega
  rw[if_neg hc];have hdl:(l.drop (i+1)).length=l.length - (i+1):=by rw[List.length_drop]
  have hsr:=(h.sr.2.drop (i+1))
  have hadd:(⟨g,0,none⟩:Addr).add ((i+1)*E.sz)=⟨g,(i+1)*E.sz,none⟩:=by
   have:(i+1)*E.sz≠0:=by have:=Nat.mul_pos (show 0<i+1 by omega) hpos;omega
   unfold Addr.add;rw[if_neg this];simp
  rw[Option.map_some,hadd] at hsr ⊢;have hcells:=SR.cells (E:=E) (l:=l.drop (i+1)) hsr;have hr:=run_append_room (P:=P) w E.s ty E.e i0 E.hs hi0 g i c cur hb ⟨g,(i+1)*E.sz,none⟩ (l.length - (i+1)) (c - (i+1)) (E.flat (l.drop (i+1))) (by rw[E.flat_length,hdl,z1]) hcells (E.flat_cells _) (by omega)
   (by rw[E.flat_length,hdl,z1,h3,←Nat.add_mul];exact Nat.mul_le_mul_right _ (by omega))
  rw[show i+(l.length - (i+1))=l.length - 1 by omega] at hr;have e2:E.flat l=E.flat (l.take i)++E.flat (l.drop i):=by rw[←E.flat_append,List.take_append_drop]
  have e3:(E.flat (l.take i)).length=i*E.sz:=by rw[E.flat_length,List.length_take,Nat.min_eq_left (by omega)]
  have hct:cur.toList.take (i*E.sz)=E.flat (l.take i):=by
   have e1:cur.toList.take (i*E.sz)=(cur.toList.take (l.length*E.sz)).take (i*E.sz):=by
    rw[List.take_take,Nat.min_eq_left (Nat.mul_le_mul_right _ (by omega))]
   rw[e1,h4,e2,←e3,List.take_left]
  have hel:(l.eraseIdx i).length=l.length - 1:=List.length_eraseIdx_of_lt hi;have hfe:E.flat (l.eraseIdx i)=E.flat (l.take i)++E.flat (l.drop (i+1)):=by rw[List.eraseIdx_eq_take_drop_succ,E.flat_append]
  have hsz1:i*E.sz+(l.length - (i+1))*E.sz=(l.length - 1)*E.sz:=by rw[←Nat.add_mul];congr 1;omega
  refine⟨_,hr,?_,⟨rfl,rfl,rfl,by simp,fun k _ hk=>setRow_other w g k _ (fun e=>hk (by rw[e]))⟩,by simp[World.setRow]⟩;unfold OwnR;rw[hel];refine⟨by rw[E.flat_length,hel],.inr ⟨g,c,_,rfl,hg,setRow_heap w g cur _ E.e _ hb,by omega,h2,?_,?_⟩⟩
  ·have hc2:(l.length - 1)*E.sz≤c*E.sz:=Nat.mul_le_mul_right _ (by omega)
   have hi2:i*E.sz≤c*E.sz:=Nat.mul_le_mul_right _ (by omega);simp only[List.size_toArray,List.length_append,List.length_take,List.length_drop,Array.length_toList,z1,h3,E.flat_length,hdl];omega
  ·rw[List.toList_toArray,z1,hct,←hfe,←hel,←E.flat_length,List.take_left]
theorem run_mid1(g c n:Nat)(a:Nat)(ha:a+1≤c)(W:World):(Instr.slice E.s (.slice (some ⟨g,0,none⟩) n c) (some (.int .i64 a)) (some (.int .i64 ((a:Int)+1))) none).run P W=.ok (.slice (some ⟨g,a*E.sz,none⟩) 1 (c - a)) W:=by
 have hs:=size_elt E W;have h1:(a:Int)≤(a:Int)+1:=by omega
 have h2:(a:Int)+1≤c:=by omega
 have h3:¬ c=a:=by omega
 have h5:((a:Int)+1).toNat - a=1:=by omega
 have h6:0≤(a:Int)+1:=by omega
 simp[Instr.slice,run_underlying E.hs,Instr.sliceBounds,Instr.sliceBound,h1,h2,h3,hs,asIntOf,Addr.add,h5,h6];intro h
 first | exact h.symm | (rw[h]) | omega
theorem run_del0(A:Option Addr)(n c:Nat)(i:Nat)(hi:i+1≤n)(hc:n≤c)(W:World):(Instr.slice E.s (.slice A n c) (some (.int .i64 i)) (some (.int .i64 ((i:Int)+1))) (some (.int .i64 n))).run P W=.ok (.slice (if n=i then A else Option.map (fun x=>x.add (i*E.sz)) A) 1 (n - i)) W:=by
 have hs:=size_elt E W;have h1:(i:Int)≤(i:Int)+1:=by omega
 have h2:(i:Int)+1≤n:=by omega
 have h3:(n:Int)≤c:=by omega
 have h6:0≤(i:Int)+1:=by omega
 have h7:((i:Int)+1).toNat - i=1:=by omega
 simp[Instr.slice,run_underlying E.hs,Instr.sliceBounds,Instr.sliceBound,h1,h2,h3,hs,asIntOf,h6,h7,hc]
theorem run_clr{w:World}{base g c:Nat}{l:List α}(ty:TypeId)(hv:∀ w,(zeroValue E.e).run P w=.ok E.z w)(h1z:∀ u ∈ E.z.cells,u.oneCell'=true)(h:OwnR E w base (.slice (some ⟨g,0,none⟩) l.length c) l)(hl:l.length+1≤c)(d:Nat) :
  ∃ w',(Builtin.clear_ #[E.s] ty #[.slice (some ⟨g,l.length*E.sz,none⟩) 1 d]).run P w=.ok (.tuple #[]) w'∧OwnR E w' base (.slice (some ⟨g,0,none⟩) l.length c) l∧w.grownBy w' (some g)∧w'.heap.size=w.heap.size:=by
 obtain⟨hl0,⟨e,hn⟩ | ⟨g',cap,cur,e,hg,hb,h1,h2,h3,h4⟩⟩:=h
 ·cases e
 ·injection e with e e2 e3
  injection e with e
  injection e with e
  subst e e3
  have hzl:(Builtin.zeroCells E.z.cells 1).toList=E.z.cells.toList:=by
   have hz:=E.hz;simp[Builtin.zeroCells]
   refine List.ext_getElem (by simp) fun j a b => ?_
   simp at a;simp[Nat.mod_eq_of_lt a,a]
  have hzs:E.z.cells.toList.length=E.sz:=by rw[Array.length_toList,E.hz]
  have hfit:l.length*E.sz+0+E.z.cells.toList.length≤cur.size:=by
   rw[hzs,h3];have:(l.length+1)*E.sz≤c*E.sz:=Nat.mul_le_mul_right _ hl;rw[Nat.add_mul,Nat.one_mul] at this;omega
  have hst:=run_storeCells_at P g (l.length*E.sz) E.e E.z.cells.toList 0 cur w hb hfit (fun u hu=>h1z u (by simpa using hu));refine⟨w.setRow g (cur.toList.take (l.length*E.sz+0)++E.z.cells.toList++cur.toList.drop (l.length*E.sz+0+E.z.cells.toList.length)).toArray,?_,?_,⟨rfl,rfl,rfl,by simp[World.setRow],fun k _ hk=>setRow_other w g k _ (fun e=>hk (by rw[e]))⟩,by simp[World.setRow]⟩
  ·simp only[Builtin.clear_,List.getElem?_toArray,List.getElem?_cons_zero,Sem.run_bind,run_underlying E.hs,Result.andThen_ok,hv,hzl,hst]
   rfl
  ·refine⟨hl0,.inr ⟨g,c,_,rfl,hg,setRow_heap w g cur _ E.e _ hb,h1,h2,?_,?_⟩⟩
   ·simp only[Nat.add_zero] at hfit ⊢
    simp only[List.size_toArray,List.length_append,List.length_take,List.length_drop,Array.length_toList];simp only[Array.length_toList] at hfit;omega
   ·simp only[Nat.add_zero] at hfit ⊢
    have hx:l.length*E.sz≤cur.size:=by omega
    have e1:(cur.toList.take (l.length*E.sz)).length=l.length*E.sz:=by rw[List.length_take,Nat.min_eq_left];simpa using hx
    rw[List.toList_toArray,List.append_assoc,←h4];have e2:=List.take_left (l₁:=cur.toList.take (l.length*E.sz)) (l₂:=E.z.cells.toList++cur.toList.drop (l.length*E.sz+E.z.cells.toList.length));rw[e1] at e2;exact e2
end
theorem step_app{ops:Array Oper}{o:Oper}{a:Act}{K:Act→World→Prop}{Q:Exit→Act→World→Prop}{E:Prop}(hgd:o.guard=none)(s x:Operand)(t:TypeId)
  (ho:o.op=.call { callee:=.builtin .append,args:=#[s,x],argTypes:=#[t,t] }) (w w':World) (v vs vx:Value) (hs:a.eval s=vs) (hx:a.eval x=vx) (hrun:(Builtin.append_ #[t,t] o.type #[vs,vx]).run Tryz.prog w=.ok v w') (hK:K (a.put o.dst v) w') :
  if Region.wanted o (yielded ops a.tmps)=true then Oper.wp Tryz.prog o a w K Q else E:=by
 have hw:Region.wanted o (yielded ops a.tmps)=true:=by simp[Region.wanted,hgd]
 rw[if_pos hw];unfold Oper.wp execOp;simp only[ho,resolve,invoke,builtin,Sem.run_bind,Sem.run_pure,Result.andThen_ok,List.map_toArray,List.map_cons,List.map_nil,hs,hx,hrun];exact hK
def DelPost{α:Type}(E:Elt Tryz.prog α)(g c base:Nat)(l:List α)(i:Nat)(w:World)(e:Ending)(w':World):Prop:=e=.returned (.slice (some ⟨g,0,none⟩) (l.length - 1) c)∧OwnR E w' base (.slice (some ⟨g,0,none⟩) (l.length - 1) c) (l.eraseIdx i)∧w.grownBy w' (some g)∧w'.heap.size=w.heap.size
theorem DelI_any(g c base:Nat)(l:List Int)(i:Nat)(w:World)(h:OwnR intE w base (.slice (some ⟨g,0,none⟩) l.length c) l)(hi:i<l.length)(hl:l.length≤1000):Calls Tryz.prog 139 #[.slice (some ⟨g,0,none⟩) l.length c,.int .i64 i,.int .i64 ((i:Int)+1)] w (DelPost intE g c base l i w):=by
 have hlc:l.length≤c:=by
  obtain⟨_,_,_,_,_,_,h1,_⟩:=h.blk (by omega);exact h1
 have e0:∀ W:World,(Instr.slice 22 (.slice (some ⟨g,0,none⟩) l.length c) (some (.int .i64 i)) (some (.int .i64 ((i:Int)+1))) (some (.int .i64 l.length))).run Tryz.prog W=.ok _ W:=fun W=>run_del0 intE (some ⟨g,0,none⟩) l.length c i (by omega) hlc W
 have e1:∀ W:World,(Instr.slice 22 (.slice (some ⟨g,0,none⟩) l.length c) none (some (.int .i64 i)) none).run Tryz.prog W=.ok (.slice (some ⟨g,0,none⟩) (i:Int).toNat c) W:=fun W=>run_preR intE (some ⟨g,0,none⟩) c l.length i (by omega) (by omega) W
 rw[Int.toNat_natCast] at e1
 have e2:∀ W:World,(Instr.slice 22 (.slice (some ⟨g,0,none⟩) l.length c) (some (.int .i64 ((i:Int)+1))) none none).run Tryz.prog W=_:=fun W=>run_sufR intE (some ⟨g,0,none⟩) c l.length ((i:Int)+1) (by omega) (by omega) W
 rw[show ((i:Int)+1).toNat=i+1 by omega] at e2;have hd:OwnR intE w.drew base (.slice (some ⟨g,0,none⟩) l.length c) l:=h.ext (Below.refl _ w).drew;obtain⟨w1,hA,hO,hg1,hs1⟩:=run_delA intE 22 hd i hi
 generalize (if c=i+1 then some ⟨g,0,none⟩ else (some (⟨g,0,none⟩:Addr)).map (fun a=>a.add ((i+1)*Elt.sz intE)))=A2 at e2 hA
 replace hA:(Builtin.append_ #[22,22] 22 _).run Tryz.prog w.drew=_:=hA;have hel:(l.eraseIdx i).length=l.length - 1:=List.length_eraseIdx_of_lt hi;rw[←hel] at hO
 have hv:∀ w:World,(zeroValue intE.e).run Tryz.prog w=.ok intE.z w:=fun w=>Tryz.zeroValue3 w
 have hz1:∀ u ∈ intE.z.cells,u.oneCell'=true:=by decide
 obtain⟨w2,hC,hO2,hg2,hs2⟩:=run_clr (E:=intE) (w:=w1) 22 hv hz1 hO (by omega) (c - (l.length - 1))
 have hC':∀ ty,(Builtin.clear_ #[22] ty #[.slice (some ⟨g,(l.length - 1)*intE.sz,none⟩) 1 (c - (l.length - 1))]).run Tryz.prog w1=.ok (.tuple #[]) w2:=fun ty=>by rw[←hel];exact hC
 rw[hel] at hO2
 have e3:∀ W:World,(Instr.slice 22 (.slice (some ⟨g,0,none⟩) (l.length - 1) c) (some (.int .i64 ((l.length - 1:Nat):Int))) (some (.int .i64 (((l.length - 1:Nat):Int)+1))) none).run Tryz.prog W=.ok (.slice (some ⟨g,(l.length - 1)*intE.sz,none⟩) 1 (c - (l.length - 1))) W:=fun W=>run_mid1 intE g c (l.length - 1) (l.length - 1) (by omega) W
 rw[show ((l.length - 1:Nat):Int)+1=(l.length:Int) by omega] at e3;have hne:((i:Int) == (i:Int)+1)=false:=by simp;omega
 have HO:=Lib.hid hO2;clear hd hO hO2 hC h hv hz1
 go_enter Tryz.func139,Tryz.ntmps139
 go_wp2_with fail;refine wp_region_held_drew (S:=fun _=>True) (by kernel_rfl) ?_ (fun hHeld => ?_)
 ·trivial
 refine zht 0 ?_;refine zht 1 ?_;refine zht 2 ?_;refine zht 3 ?_;refine zht 4 ?_;refine zht 5 ?_;refine zhr 6 (fun K hK => ?_);refine step_app rfl (.tmp 22) (.tmp 25) _ rfl _ _ _ _ _ rfl rfl hA ?_
 refine hK.out _ _ (by trivial) fun hHeld => ?_
 clear hK K;(try simp only[Act.put,zy0,zy1,zy2]);refine zht 7 ?_;refine wpAnyH_done (by kernel_rfl) ?_ _;go_wp2_with fail;go_ret;exact⟨rfl,HO.out,(show w.grownBy w.drew (some g) from ⟨rfl,rfl,rfl,Nat.le_refl _,fun _ _ _=>rfl⟩).andThen (hg1.andThen hg2 (fun j hj=>.inr hj)) (fun j hj=>.inr hj),hs2.trans hs1⟩
theorem DelR_any(g c base:Nat)(l:List Wr)(i:Nat)(w:World)(h:OwnR rdE w base (.slice (some ⟨g,0,none⟩) l.length c) l)(hi:i<l.length)(hl:l.length≤1000):Calls Tryz.prog 181 #[.slice (some ⟨g,0,none⟩) l.length c,.int .i64 i,.int .i64 ((i:Int)+1)] w (DelPost rdE g c base l i w):=by
 have hlc:l.length≤c:=by
  obtain⟨_,_,_,_,_,_,h1,_⟩:=h.blk (by omega);exact h1
 have e0:∀ W:World,(Instr.slice 27 (.slice (some ⟨g,0,none⟩) l.length c) (some (.int .i64 i)) (some (.int .i64 ((i:Int)+1))) (some (.int .i64 l.length))).run Tryz.prog W=.ok _ W:=fun W=>run_del0 rdE (some ⟨g,0,none⟩) l.length c i (by omega) hlc W
 have e1:∀ W:World,(Instr.slice 27 (.slice (some ⟨g,0,none⟩) l.length c) none (some (.int .i64 i)) none).run Tryz.prog W=.ok (.slice (some ⟨g,0,none⟩) (i:Int).toNat c) W:=fun W=>run_preR rdE (some ⟨g,0,none⟩) c l.length i (by omega) (by omega) W
 rw[Int.toNat_natCast] at e1
 have e2:∀ W:World,(Instr.slice 27 (.slice (some ⟨g,0,none⟩) l.length c) (some (.int .i64 ((i:Int)+1))) none none).run Tryz.prog W=_:=fun W=>run_sufR rdE (some ⟨g,0,none⟩) c l.length ((i:Int)+1) (by omega) (by omega) W
 rw[show ((i:Int)+1).toNat=i+1 by omega] at e2;have hd:OwnR rdE w.drew base (.slice (some ⟨g,0,none⟩) l.length c) l:=h.ext (Below.refl _ w).drew;obtain⟨w1,hA,hO,hg1,hs1⟩:=run_delA rdE 27 hd i hi
 generalize (if c=i+1 then some ⟨g,0,none⟩ else (some (⟨g,0,none⟩:Addr)).map (fun a=>a.add ((i+1)*Elt.sz rdE)))=A2 at e2 hA
 replace hA:(Builtin.append_ #[27,27] 27 _).run Tryz.prog w.drew=_:=hA;have hel:(l.eraseIdx i).length=l.length - 1:=List.length_eraseIdx_of_lt hi;rw[←hel] at hO
 have hv:∀ w:World,(zeroValue rdE.e).run Tryz.prog w=.ok rdE.z w:=fun w=>Tryz.zeroValue100 w
 have hz1:∀ u ∈ rdE.z.cells,u.oneCell'=true:=by decide
 obtain⟨w2,hC,hO2,hg2,hs2⟩:=run_clr (E:=rdE) (w:=w1) 27 hv hz1 hO (by omega) (c - (l.length - 1))
 have hC':∀ ty,(Builtin.clear_ #[27] ty #[.slice (some ⟨g,(l.length - 1)*rdE.sz,none⟩) 1 (c - (l.length - 1))]).run Tryz.prog w1=.ok (.tuple #[]) w2:=fun ty=>by rw[←hel];exact hC
 rw[hel] at hO2
 have e3:∀ W:World,(Instr.slice 27 (.slice (some ⟨g,0,none⟩) (l.length - 1) c) (some (.int .i64 ((l.length - 1:Nat):Int))) (some (.int .i64 (((l.length - 1:Nat):Int)+1))) none).run Tryz.prog W=.ok (.slice (some ⟨g,(l.length - 1)*rdE.sz,none⟩) 1 (c - (l.length - 1))) W:=fun W=>run_mid1 rdE g c (l.length - 1) (l.length - 1) (by omega) W
 rw[show ((l.length - 1:Nat):Int)+1=(l.length:Int) by omega] at e3;have hne:((i:Int) == (i:Int)+1)=false:=by simp;omega
 have HO:=Lib.hid hO2;clear hd hO hO2 hC h hv hz1
 go_enter Tryz.func181,Tryz.ntmps181
 go_wp2_with fail;refine wp_region_held_drew (S:=fun _=>True) (by kernel_rfl) ?_ (fun hHeld => ?_)
 ·trivial
 refine zht 0 ?_;refine zht 1 ?_;refine zht 2 ?_;refine zht 3 ?_;refine zht 4 ?_;refine zht 5 ?_;refine zhr 6 (fun K hK => ?_);refine step_app rfl (.tmp 22) (.tmp 25) _ rfl _ _ _ _ _ rfl rfl hA ?_
 refine hK.out _ _ (by trivial) fun hHeld => ?_
 clear hK K;(try simp only[Act.put,zy0,zy1,zy2]);refine zht 7 ?_;refine wpAnyH_done (by kernel_rfl) ?_ _;go_wp2_with fail;go_ret;exact⟨rfl,HO.out,(show w.grownBy w.drew (some g) from ⟨rfl,rfl,rfl,Nat.le_refl _,fun _ _ _=>rfl⟩).andThen (hg1.andThen hg2 (fun j hj=>.inr hj)) (fun j hj=>.inr hj),hs2.trans hs1⟩
theorem DelJ_any(g c base:Nat)(l:List Jb)(i:Nat)(w:World)(h:OwnR jbE w base (.slice (some ⟨g,0,none⟩) l.length c) l)(hi:i<l.length)(hl:l.length≤1000):Calls Tryz.prog 196 #[.slice (some ⟨g,0,none⟩) l.length c,.int .i64 i,.int .i64 ((i:Int)+1)] w (DelPost jbE g c base l i w):=by
 have hlc:l.length≤c:=by
  obtain⟨_,_,_,_,_,_,h1,_⟩:=h.blk (by omega);exact h1
 have e0:∀ W:World,(Instr.slice 29 (.slice (some ⟨g,0,none⟩) l.length c) (some (.int .i64 i)) (some (.int .i64 ((i:Int)+1))) (some (.int .i64 l.length))).run Tryz.prog W=.ok _ W:=fun W=>run_del0 jbE (some ⟨g,0,none⟩) l.length c i (by omega) hlc W
 have e1:∀ W:World,(Instr.slice 29 (.slice (some ⟨g,0,none⟩) l.length c) none (some (.int .i64 i)) none).run Tryz.prog W=.ok (.slice (some ⟨g,0,none⟩) (i:Int).toNat c) W:=fun W=>run_preR jbE (some ⟨g,0,none⟩) c l.length i (by omega) (by omega) W
 rw[Int.toNat_natCast] at e1
 have e2:∀ W:World,(Instr.slice 29 (.slice (some ⟨g,0,none⟩) l.length c) (some (.int .i64 ((i:Int)+1))) none none).run Tryz.prog W=_:=fun W=>run_sufR jbE (some ⟨g,0,none⟩) c l.length ((i:Int)+1) (by omega) (by omega) W
 rw[show ((i:Int)+1).toNat=i+1 by omega] at e2;have hd:OwnR jbE w.drew base (.slice (some ⟨g,0,none⟩) l.length c) l:=h.ext (Below.refl _ w).drew;obtain⟨w1,hA,hO,hg1,hs1⟩:=run_delA jbE 29 hd i hi
 generalize (if c=i+1 then some ⟨g,0,none⟩ else (some (⟨g,0,none⟩:Addr)).map (fun a=>a.add ((i+1)*Elt.sz jbE)))=A2 at e2 hA
 replace hA:(Builtin.append_ #[29,29] 29 _).run Tryz.prog w.drew=_:=hA;have hel:(l.eraseIdx i).length=l.length - 1:=List.length_eraseIdx_of_lt hi;rw[←hel] at hO
 have hv:∀ w:World,(zeroValue jbE.e).run Tryz.prog w=.ok jbE.z w:=fun w=>Tryz.zeroValue115 w
 have hz1:∀ u ∈ jbE.z.cells,u.oneCell'=true:=by decide
 obtain⟨w2,hC,hO2,hg2,hs2⟩:=run_clr (E:=jbE) (w:=w1) 29 hv hz1 hO (by omega) (c - (l.length - 1))
 have hC':∀ ty,(Builtin.clear_ #[29] ty #[.slice (some ⟨g,(l.length - 1)*jbE.sz,none⟩) 1 (c - (l.length - 1))]).run Tryz.prog w1=.ok (.tuple #[]) w2:=fun ty=>by rw[←hel];exact hC
 rw[hel] at hO2
 have e3:∀ W:World,(Instr.slice 29 (.slice (some ⟨g,0,none⟩) (l.length - 1) c) (some (.int .i64 ((l.length - 1:Nat):Int))) (some (.int .i64 (((l.length - 1:Nat):Int)+1))) none).run Tryz.prog W=.ok (.slice (some ⟨g,(l.length - 1)*jbE.sz,none⟩) 1 (c - (l.length - 1))) W:=fun W=>run_mid1 jbE g c (l.length - 1) (l.length - 1) (by omega) W
 rw[show ((l.length - 1:Nat):Int)+1=(l.length:Int) by omega] at e3;have hne:((i:Int) == (i:Int)+1)=false:=by simp;omega
 have HO:=Lib.hid hO2;clear hd hO hO2 hC h hv hz1
 go_enter Tryz.func196,Tryz.ntmps196
 go_wp2_with fail;refine wp_region_held_drew (S:=fun _=>True) (by kernel_rfl) ?_ (fun hHeld => ?_)
 ·trivial
 refine zht 0 ?_;refine zht 1 ?_;refine zht 2 ?_;refine zht 3 ?_;refine zht 4 ?_;refine zht 5 ?_;refine zhr 6 (fun K hK => ?_);refine step_app rfl (.tmp 22) (.tmp 25) _ rfl _ _ _ _ _ rfl rfl hA ?_
 refine hK.out _ _ (by trivial) fun hHeld => ?_
 clear hK K;(try simp only[Act.put,zy0,zy1,zy2]);refine zht 7 ?_;refine wpAnyH_done (by kernel_rfl) ?_ _;go_wp2_with fail;go_ret;exact⟨rfl,HO.out,(show w.grownBy w.drew (some g) from ⟨rfl,rfl,rfl,Nat.le_refl _,fun _ _ _=>rfl⟩).andThen (hg1.andThen hg2 (fun j hj=>.inr hj)) (fun j hj=>.inr hj),hs2.trans hs1⟩
theorem dWrite_any(A B:Option Addr)(c d:Nat)(k0:Dsk)(slot frame:Int)(x:Ct)(w:World)(ha:SR ctE w A k0.cells)(hb:SR jbE w B k0.jobs)(la:k0.cells.length≤1000)(lb:k0.jobs.length≤1000) :
  Calls Tryz.prog 111 #[dkV A c B d k0,.int .i64 slot,.int .i64 frame,ctV x] w (DkPost (addD k0 ⟨true,slot,frame,x⟩) w):=by
 have HA:=Lib.hid ha;have HB:=Lib.hid hb;obtain⟨⟨RD,r2⟩,hR⟩:∃ R,addD k0 ⟨true,slot,frame,x⟩=R:=⟨_,rfl⟩;have HR:=Lib.hid hR;rw[hR];obtain⟨c0,c1_,c2_,c3,c4,c5_,c6,c7⟩:=x;show Calls _ _ #[.agg #[.slice A k0.cells.length c,.slice B k0.jobs.length d,.int .i64 k0.room],.int .i64 slot,.int .i64 frame,.agg (zkk c0 c1_ c2_ c3 c4 c5_ c6 c7).toArray] _ _;clear ha hb hR;obtain⟨X,hX⟩:∃ X,((w.alloc (.cells #[.slice A k0.cells.length c,.slice B k0.jobs.length d,.int .i64 k0.room] 31)).alloc (.cells (zkk c0 c1_ c2_ c3 c4 c5_ c6 c7).toArray 38)).alloc (.cells #[.slice none 0 0,.slice none 0 0,.int .i64 0] 31)=X:=⟨_,rfl⟩;have kD:Blk X w.heap.size 31 #[.slice A k0.cells.length c,.slice B k0.jobs.length d,.int .i64 k0.room]:=by rw[←hX];exact zbk
 have kJ:Blk X (w.heap.size+1) 38 (zkk c0 c1_ c2_ c3 c4 c5_ c6 c7).toArray:=by rw[←hX];exact(Blk.new_ (by simp) rfl:Blk _ (w.heap.size+1) _ _).alloc_ _
 have kT:Blk X (w.heap.size+2) 31 #[.slice none 0 0,.slice none 0 0,.int .i64 0]:=by rw[←hX];exact Blk.new_ (by simp) rfl
 have BX:Below w.heap.size w X:=by rw[←hX];exact zbl
 have hXs:X.heap.size=w.heap.size+3:=by rw[←hX];simp
 have zX:w.heap.size+2<X.heap.size:=by omega
 obtain⟨q0,q1,q2⟩:=zc3 kD;obtain⟨j0,j1,j2,j3,j4,j5,j6,j7⟩:=zc8 kJ;have zD:=kD.lt;have zJ:=kJ.lt
 go_enter Tryz.func111,Tryz.ntmps111
 go_wp2_with fail;(try rw[hX]);refine (dSubmit_any A B c d k0 ⟨true,slot,frame,⟨c0,c1_,c2_,c3,c4,c5_,c6,c7⟩⟩ X (HA.out.ext BX) (HB.out.ext BX) la lb).mono ?_;rw[HR.out];rintro e1 w1 ⟨A1,d1,A2,d2,rfl,oa,ob,hb1⟩;have B1:=zbt BX hb1;replace kT:=kT.below_ hb1 kT.lt;obtain⟨n1,hn1⟩:∃ n,RD.cells.length=n:=⟨_,rfl⟩;obtain⟨n2,hn2⟩:∃ n,RD.jobs.length=n:=⟨_,rfl⟩;obtain⟨rm,hr2⟩:∃ n,RD.room=n:=⟨_,rfl⟩;unfold dkV;rw[hn1,hn2,hr2];have HN1:=Lib.hid hn1;have HN2:=Lib.hid hn2;have HN3:=Lib.hid hr2;clear hn1 hn2 hr2 hb1 hX hXs;clear q0 q1 q2 j0 j1 j2 j3 j4 j5 j6 j7;have zT:=kT.lt;obtain⟨t0,t1,t2⟩:=zc3 kT;obtain⟨tf0,tf1,tf2,-⟩:=zf kT;go_wp2_with fail;obtain⟨W,hW⟩:∃ W,((w1.setCell ⟨w.heap.size+2,0,none⟩ (.slice A1 n1 d1)).setCell ⟨w.heap.size+2,1,none⟩ (.slice A2 n2 d2)).setCell ⟨w.heap.size+2,2,none⟩ (.int .i64 rm)=W:=⟨_,rfl⟩;have kW:Blk W (w.heap.size+2) 31 #[.slice A1 n1 d1,.slice A2 n2 d2,.int .i64 rm]:=by rw[←hW];exact(((kT.set_ 0 _).set_ 1 _).set_ 2 _)
 have bW:Below w.heap.size w W:=by rw[←hW];exact((B1.setCell (p:=⟨w.heap.size+2,0,none⟩) (by show w.heap.size≤w.heap.size+2;omega) _).setCell (p:=⟨w.heap.size+2,1,none⟩) (by show w.heap.size≤w.heap.size+2;omega) _).setCell (p:=⟨w.heap.size+2,2,none⟩) (by show w.heap.size≤w.heap.size+2;omega) _
 have oaW:OwnE ctE W X.heap.size A1 d1 RD.cells:=by rw[←hW];exact((((oa.far (by exact zX) _).far (by exact zX) _).far (by exact zX) _))
 have obW:OwnE jbE W X.heap.size A2 d2 RD.jobs:=by rw[←hW];exact((((ob.far (by exact zX) _).far (by exact zX) _).far (by exact zX) _))
 rw[hW];clear hW t0 t1 t2;refine bodyPost_ret (by simp[results,Tryz.results111,go_sem,zc3 kW] <;> rfl) rfl ?_;refine⟨A1,d1,A2,d2,?_,oaW.base_ (by omega),obW.base_ (by omega),bW⟩;simp only[dkV,HN1.out,HN2.out,HN3.out]
theorem dLeft_any(A B:Option Addr)(c d:Nat)(k0:Dsk)(w:World)(hb:SR jbE w B k0.jobs)(la:k0.cells.length≤1000)(lb:k0.jobs.length≤1000) :
  Calls Tryz.prog 99 #[dkV A c B d k0] w (IntPost (if (chkD k0).1≠0 then 0 else k0.room - k0.jobs.length) (chkD k0).1 w):=by
 have HB:=Lib.hid hb;obtain⟨⟨z,n0⟩,hz⟩:∃ r,chkD k0=r:=⟨_,rfl⟩;have HZ:=Lib.hid hz;rw[hz];dsimp only;have BX:Below w.heap.size w (w.alloc (.cells #[.slice A k0.cells.length c,.slice B k0.jobs.length d,.int .i64 k0.room] 31)):=zbl
 by_cases z0:z=0
 ·subst z0
  have hr:k0.room≤32∧1≤k0.room:=by
   have:=((chkD_ok (d:=k0)).1 (by rw[hz])).room;omega
  rw[if_neg (by simp)];unfold dkV;clear hz hb
  go_enter Tryz.func99,Tryz.ntmps99
  go_wp2_with fail;refine (dCheck_any A B c d k0 _ (HB.out.ext BX) la lb HZ.out).mono ?_;rintro e1 w1 ⟨rfl,hb1⟩;have kD:Blk w1 w.heap.size 31 #[.slice A k0.cells.length c,.slice B k0.jobs.length d,.int .i64 k0.room]:=(Blk.new_ rfl rfl:Blk (w.alloc (.cells #[.slice A k0.cells.length c,.slice B k0.jobs.length d,.int .i64 k0.room] 31)) w.heap.size 31 _).below_ hb1 (by simp);have B1:Below w.heap.size w w1:=BX.trans (hb1.mono (by simp));have zD:=kD.lt;clear hb1;obtain⟨q0,q1,q2⟩:=zc3 kD;have hwr:wrap64 (k0.room - (k0.jobs.length:Int))=k0.room - (k0.jobs.length:Int):=by unfold wrap64;omega
  have HW:=Lib.hid hwr;go_wp2_with fail;refine bodyPost_ret (by simp[results,Tryz.results99,go_sem,HW.out] <;> rfl) rfl ?_;exact⟨rfl,B1⟩
 ·rw[if_pos z0]
  have zb:(z != 0)=true:=by simpa using z0
  unfold dkV;clear hz hb z0
  go_enter Tryz.func99,Tryz.ntmps99
  go_wp2_with fail;refine (dCheck_any A B c d k0 _ (HB.out.ext BX) la lb HZ.out).mono ?_;rintro e1 w1 ⟨rfl,hb1⟩;go_wp2_with fail;refine bodyPost_ret (by simp[results,Tryz.results99,go_sem] <;> rfl) rfl ?_;exact⟨rfl,zbl⟩
end Go.Proofs.YthijbipidbjpfaaGreatDoor
