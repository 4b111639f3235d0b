import Derived.Test.YthijbipidbjpfaaGreatDoorZR23
import Derived.Test.YthijbipidbjpfaaGreatDoorZR00
import Derived.Test.YthijbipidbjpfaaGreatDoorZR04
import Derived.Test.YthijbipidbjpfaaGreatDoorZR14
import Derived.Test.YthijbipidbjpfaaGreatDoorZR06
import Derived.Test.YthijbipidbjpfaaGreatDoorZR25
import Derived.Test.YthijbipidbjpfaaGreatDoorZR19
import Derived.Test.YthijbipidbjpfaaGreatDoorZR26
import Derived.Test.YthijbipidbjpfaaGreatDoorZR20
import Derived.Test.YthijbipidbjpfaaGreatDoorZR03
set_option linter.unusedSimpArgs false
set_option linter.unusedVariables false
set_option maxRecDepth 100000
set_option maxHeartbeats 8000000
namespace Go.Proofs.YthijbipidbjpfaaGreatDoor
open Go.RowKit Go.Maps
theorem rsStart_any (A B:Option Addr) (c d:Nat) (s:Sts) (k:Nat) (w:World) (ha:SR intE w A s.refs) (hb:SR boolE w B s.busy) (hok:OkT s) (hk:k < s.refs.length) (hby:bsyT s k = false) (hrf:refT s k ≠ 0) :
  Calls Tryz.prog 92 #[stV A c B d s,.int .i64 k] w (StPost (witT s k (refT s k) true) [.int .i64 0] w):=by
 obtain ⟨l1,l2⟩:=hok.len
 have hbl:=hok.blen
 have hC:=fun W h => rsAsked_any A B c d s k W h hok
 have hE:askT s k = 0:=by unfold askT;rw [chkT_zero hok,if_neg (by simp),if_neg (by omega)]
 rw [hE] at hC
 have HC:=Lib.hid hC
 have HW:=Lib.hid (fun W h1 h2 => rsWith_any A B c d s k (refT s k) true W h1 h2 (by omega) hbl hk)
 have HA:=Lib.hid ha
 have HB:=Lib.hid hb
 have i1:(k:Int) < s.refs.length:=by omega
 have i2:(k:Int) < s.busy.length:=by omega
 have r0:(refT s k == 0) = false:=by simpa using hrf
 have HBY:=Lib.hid hby
 have HBL:=Lib.hid hbl
 clear ha hb hok hC hE hrf hby hbl
 obtain ⟨b1,o1,x1,rfl,hl1,hx1,hc1⟩:=HA.out.at_ hk
 obtain ⟨b2,o2,x2,rfl,hl2,hx2,hc2⟩:=HB.out.at_ (k:=k) (by have:=HBL.out;omega)
 have HR:refT s k = x1:=by unfold refT;rw [List.getD_eq_getElem?_getD,hx1];rfl
 have HX2:x2 = false:=by rw [← HBY.out];unfold bsyT;rw [List.getD_eq_getElem?_getD,hx2];rfl
 have c1:w.cell? ⟨b1,o1 + k,none⟩ = some (.int .i64 (refT s k)):=by rw [HR];simpa [show intE.sz = 1 from rfl] using hc1 0 (.int .i64 x1) rfl
 have c2:w.cell? ⟨b2,o2 + k,none⟩ = some (.bool false):=by rw [← HX2];simpa [show boolE.sz = 1 from rfl] using hc2 0 (.bool x2) rfl
 clear hx1 hx2 hc1 hc2 HR HX2
 unfold stV at HC HW ⊢
 obtain ⟨X,hX⟩:∃ X,(w.alloc (.cells #[.slice (some ⟨b1,o1,none⟩) s.refs.length c,.slice (some ⟨b2,o2,none⟩) s.busy.length d] 25)).alloc (.cells #[.slice none 0 0,.slice none 0 0] 25) = X:=⟨_,rfl⟩
 have kX:=za1 hX
 have kR:=za2 hX
 have BX:Below w.heap.size w X:=by rw [← hX];exact zbl
 have zX:=kX.lt
 have zR:=kR.lt
 obtain ⟨q0,q1⟩:=zc2 kX
 go_enter Tryz.func92,Tryz.ntmps92
 go_wp2_with fail
 (try rw [hX])
 clear hX
 refine (HC.out X (HA.out.ext BX)).mono ?_
 rintro e1 w1 ⟨rfl,hb1⟩
 have B1:=BX.trans (hb1.mono BX.size)
 replace kX:=kX.below_ hb1 zX
 replace kR:=kR.below_ hb1 zR
 clear zX zR hb1 q0 q1
 have zX:=kX.lt
 have zR:=kR.lt
 obtain ⟨q0,q1⟩:=zc2 kX
 replace c1:=cell_keep B1 c1 hl1
 replace c2:=cell_keep B1 c2 hl2
 have zb:b1 < w1.heap.size:=Nat.lt_of_lt_of_le hl1 B1.size
 have zb2:b2 < w1.heap.size:=Nat.lt_of_lt_of_le hl2 B1.size
 go_upto_region 8 with fail
 refine wp_region_held_drew (S:=(fun (wx:World) => wx.cell? ⟨w.heap.size,0,none⟩ = some (.slice (some ⟨b1,o1,none⟩) s.refs.length c)∧wx.cell? ⟨w.heap.size,1,none⟩ = some (.slice (some ⟨b2,o2,none⟩) s.busy.length d)∧wx.cell? ⟨b1,o1 + k,none⟩ = some (.int .i64 (refT s k)))) (by kernel_rfl) ?_ (fun hHeld => ?_)
 ·exact ⟨q0,q1,c1⟩
 refine zht 0 ?_
 refine zht 1 ?_
 refine zht 2 ?_
 refine zht 3 ?_
 refine zht 4 ?_
 refine zht 5 ?_
 refine zht 6 ?_
 refine zhr 7 (fun K hK => ?_)
 go_simp
 unfold BkPost at HW
 refine (HW.out w1.drew (HA.out.ext B1.drew) (HB.out.ext B1.drew)).mono ?_
 rintro e5 w5 ⟨A1,d1,A2,d2,rfl,o1,o2,hb5'⟩
 have hb5:Below w1.heap.size w1 w5:=(Below.refl _ w1).drew.trans hb5'
 unfold stV witT
 dsimp only
 simp only [List.length_set]
 have kX5:=kX.below_ hb5 zX
 have kR5:=kR.below_ hb5 zR
 have zR5:=kR5.lt
 obtain ⟨t0,t1⟩:=zc2 kR5
 obtain ⟨tf0,tf1,-⟩:=zf kR5
 refine hK.out _ _ (by first | exact ⟨cell_keep hb5 q0 zX,cell_keep hb5 q1 zX,cell_keep hb5 c1 zb⟩ | exact ⟨by simpa using ((kX5.far_ (by simp) _).far_ (by simp) _).cell_ 0,by simpa using ((kX5.far_ (by simp) _).far_ (by simp) _).cell_ 1,by rw [World.cell?_setCell_other _ _ _ _ (by intro e;injection e with e1;omega),World.cell?_setCell_other _ _ _ _ (by intro e;injection e with e1;omega)];exact cell_keep hb5 c1 zb⟩) fun hHeld => ?_
 clear hK K
 (try simp only [Act.put,zy0,zy1,zy2])
 refine zhr 8 (fun K hK => ?_)
 go_simp
 refine hK.out _ _ (by first | exact ⟨cell_keep hb5 q0 zX,cell_keep hb5 q1 zX,cell_keep hb5 c1 zb⟩ | exact ⟨by simpa using ((kX5.far_ (by simp) _).far_ (by simp) _).cell_ 0,by simpa using ((kX5.far_ (by simp) _).far_ (by simp) _).cell_ 1,by rw [World.cell?_setCell_other _ _ _ _ (by intro e;injection e with e1;omega),World.cell?_setCell_other _ _ _ _ (by intro e;injection e with e1;omega)];exact cell_keep hb5 c1 zb⟩) fun hHeld => ?_
 clear hK K
 (try simp only [Act.put,zy0,zy1,zy2])
 refine zht 9 ?_
 refine wpAnyH_done (by kernel_rfl) ?_ _
 have B5:=B1.trans (hb5.mono B1.size)
 have zk:=hb5'.size
 go_wp2_with fail
 obtain ⟨W,hW⟩:∃ W,setN w5 (w.heap.size + 1) 0 [.slice A1 s.refs.length d1,.slice A2 s.busy.length d2] = W:=⟨_,rfl⟩
 have hWn:World.setCell (World.setCell w5 ⟨w.heap.size + 1,0,none⟩ (.slice A1 s.refs.length d1)) ⟨w.heap.size + 1,1,none⟩ (.slice A2 s.busy.length d2) = W:=hW
 have kW:=zsw hW kR5
 have bW:=zbw hW B5 (by omega)
 have o1W:OwnE intE W (w.heap.size + 2) A1 d1 (s.refs.set k (refT s k)):=by rw [← hW];exact (o1.base_ (by simp at zk ⊢;omega)).farN (by exact Nat.lt_succ_self _) _
 have o2W:OwnE boolE W (w.heap.size + 2) A2 d2 (s.busy.set k true):=by rw [← hW];exact (o2.base_ (by simp at zk ⊢;omega)).farN (by exact Nat.lt_succ_self _) _
 rw [hWn]
 clear hWn hW t0 t1 tf0 tf1
 refine bodyPost_ret (by simp [results,Tryz.results92,go_sem,zc2 kW] <;> rfl) rfl ?_
 exact ⟨A1,d1,A2,d2,by simp [stV,witT],o1W.base_ (by omega),o2W.base_ (by omega),bW⟩
theorem SwO.farO {w:World} {base b o:Nat} {L:Lay} {s:Swp} {cs:Array Value} (h:SwO w base L s) (hb:Blk w b 35 cs) (vs:List Value):SwO (setN w b o vs) base L s:=
 ⟨h.o0.farBN vs hb (by decide),h.o1.farBN vs hb (by decide),h.o2.lift fun o => o.farBN vs hb (by decide),h.o3.farBN vs hb (by decide),h.o4.farBN vs hb (by decide),h.o5.farBN vs hb (by decide),h.o6.farBN vs hb (by decide),h.o7.farBN vs hb (by decide),h.p0,h.p7⟩
theorem rwFrame_b (x:Int) (b:Bool) (h:decide (0 ≤ x∧x < 256) = b) (w:World):Calls Tryz.prog 52 #[.int .i64 x] w fun e w' => e = .returned (.bool b)∧w = w':=by
 have HE:Hid (b = (decide (x ≥ 0) && decide (x < 256))):=by show _ = _;rw [← h];simp
 clear h
 cases d1:decide (x ≥ 0) with
 | true =>
  go_enter Tryz.func52,Tryz.ntmps52
  go_wp2_with fail;go_ret;exact ⟨by rw [HE.out,d1];simp,rfl⟩
 | false =>
  go_enter Tryz.func52,Tryz.ntmps52
  go_wp2_with fail;go_ret;exact ⟨by rw [HE.out,d1];simp,rfl⟩
theorem rwDescribe_any (L:Lay) (s:Swp) (base:Nat) (w:World) (h:SwO w base L s) (hbw:base ≤ w.heap.size) (hok:OkP s.po) {d:Int} {l:List Int} (hfr:s.po.free = d :: l) (hdl:s.desc.length ≤ 1000) :
  Calls Tryz.prog 58 #[swV L s] w fun e w' => ∃ L',e = .returned (swV L' (describeW s))∧SwO w' base L' (describeW s)∧Below base w w':=by
 obtain ⟨a0,c0,a1,c1,a2,c2,a3,c3,a4,c4,a5,c5,a6,c6,a7,c7⟩:=L
 have HT:=Lib.hid (tkP_ok hok hfr).1
 have hTK:=fun W h => rpTake_any a7 c7 s.po W h hok hfr
 have HTK:=Lib.hid hTK
 have HO0:=Lib.hid h
 have HE:Hid (describeW s = { s with po:=⟨s.po.size,l⟩,desc:=s.desc ++ [d] }):=by show _ = _;unfold describeW;rw [HT.out]
 clear h hok hfr hTK
 unfold swV swC
 obtain ⟨X,hX⟩:∃ X,(w.alloc (.cells (zkx s a0 c0 a1 c1 a2 c2 a3 c3 a4 c4 a5 c5 a6 c6 a7 c7).toArray 35)).alloc (.cells zkz.toArray 35) = X:=⟨_,rfl⟩
 have kX:=za1 hX
 have kR:=za2 hX
 have BX:Below w.heap.size w X:=by rw [← hX];exact zbl
 have OX:=HO0.out.ext BX
 have zX:=kX.lt
 have zR:=kR.lt
 have hbX:base ≤ X.heap.size:=by omega
 obtain ⟨-,-,-,-,-,-,-,-,-,q9,q10⟩:=zc11 kX
 go_enter Tryz.func58,Tryz.ntmps58
 go_wp2_with fail
 (try rw [hX])
 clear hX
 refine (HTK.out X OX.o7.cr).mono ?_
 rintro e1 w1 ⟨A,c,rfl,ho,hb1⟩
 dsimp only at ho
 unfold poV
 dsimp only
 have kX1:=kX.below_ hb1 zX
 have kR1:=kR.below_ hb1 zR
 have zX1:=kX1.lt
 have zR1:=kR1.lt
 have h1s:=hb1.size
 have M1:SwO w1 base ⟨a0,c0,a1,c1,a2,c2,a3,c3,a4,c4,a5,c5,a6,c6,A,c⟩ { s with po:=⟨s.po.size,l⟩ }:=
  have x:=OX.ext hb1
  ⟨x.o0,x.o1,x.o2,x.o3,x.o4,x.o5,x.o6,ho.base_ hbX,x.p0,(OX.o4.part ho (Nat.le_refl _)).symm⟩
 clear q9 q10 ho
 obtain ⟨-,-,-,-,-,-,-,-,-,q9,q10⟩:=zc11 kX1
 obtain ⟨-,-,-,-,-,-,-,-,-,qf9,qf10,-⟩:=zf kX1
 go_upto_region 3 with fail
 obtain ⟨W1,hW1⟩:∃ W1,setN w1 w.heap.size 9 [.int .i64 s.po.size,.slice A l.length c] = W1:=⟨_,rfl⟩
 have hW1n:World.setCell (World.setCell w1 ⟨w.heap.size,9,none⟩ (.int .i64 s.po.size)) ⟨w.heap.size,10,none⟩ (.slice A l.length c) = W1:=hW1
 have kB1:Blk W1 w.heap.size 35 #[.int .i64 s.cap,.slice a0 s.sl.refs.length c0,.slice a1 s.sl.busy.length c1,.slice a2 s.wr.length c2,.slice a3 s.rd.length c3,.slice a4 s.desc.length c4,.slice a5 s.dk.cells.length c5,.slice a6 s.dk.jobs.length c6,.int .i64 s.dk.room,.int .i64 s.po.size,.slice A l.length c]:=by rw [← hW1];exact (kX1.set_ 9 _).set_ 10 _
 have kR1':Blk W1 (w.heap.size + 1) 35 zkz.toArray:=by rw [← hW1];exact kR1.kept (grown_setN _ _ _ _) (by simp)
 have M1':SwO W1 base ⟨a0,c0,a1,c1,a2,c2,a3,c3,a4,c4,a5,c5,a6,c6,A,c⟩ { s with po:=⟨s.po.size,l⟩ }:=by rw [← hW1];exact M1.farO kX1 _
 have B1:Below base w W1:=by rw [← hW1];exact below_setN ((BX.mono hbw).trans (hb1.mono hbX)) hbw _
 obtain ⟨W2,hW2⟩:∃ W2,W1.alloc (.cells #[.int .i64 s.po.size,.slice A l.length c] 33) = W2:=⟨_,rfl⟩
 have BA1:=zab hW2
 have zW1:=kR1'.lt
 have kB2:=kB1.below_ BA1 kB1.lt
 have kR2:=kR1'.below_ BA1 zW1
 have M2:=M1'.ext BA1
 have B2:Below base w W2:=B1.trans (BA1.mono (by omega))
 rw [hW1n,hW2]
 clear hW1n hW1 hW2 q9 q10 qf9 qf10 M1 M1' B1 kX1 kR1 kB1 kR1' zW1 hb1 BA1
 have zB2:=kB2.lt
 have zR2:=kR2.lt
 have hb2:base ≤ W2.heap.size:=by omega
 obtain ⟨-,-,-,-,-,q5,-⟩:=zc11 kB2
 have qf5:=kB2.frozen_ 5
 have BA:Below W2.heap.size W2 (W2.alloc (.cells #[.int .i64 d] 3)):=(Below.refl _ _).alloc (Nat.le_refl _) _
 have M3:=M2.ext BA
 have kB3:=kB2.below_ BA zB2
 have kR3:=kR2.below_ BA zR2
 have HM3:=Lib.hid M3
 have HKB3:=Lib.hid kB3
 have HNN:=Lib.hid (M3.o4.notT kB3 (by decide))
 have HKR3:=Lib.hid kR3
 have HNR:=Lib.hid (M3.o4.notT kR3 (by decide))
 clear M3 kB3 kR3
 go_upto_region 4 with (at_builtin;refine wpList_appE2 intE rfl (.tmp 16) (.tmp 18) _ rfl rfl _ base (Nat.le_trans hb2 BA.size) a4 c4 s.desc.length s.desc rfl HM3.out.o4 (some ⟨W2.heap.size,0,none⟩) 1 1 [d] rfl (SR.of_blk (E:=intE) (l:=[d]) (t:=3) (Blk.new_ rfl rfl)) (Nat.zero_lt_one) (by show s.desc.length + 1 ≤ 10000;omega) rfl rfl ?_;rw [show (s.desc ++ [d]).length = s.desc.length + 1 from by simp];intro A5 cc5 w5 hO5 hb5 hk5 hn5;have kB5:=hk5.blk HKB3.out HNN.out;have zB5:=kB5.lt;have qq5:w5.cell? ⟨w.heap.size,5,none⟩ = some (.slice a4 s.desc.length c4):=(by simpa using kB5.cell_ 5);have qqf5:=kB5.frozen_ 5)
 have kR5:=hk5.blk HKR3.out HNR.out
 have M5:=HM3.out.keptD hk5
 have p05:=HM3.out.p0.near (c2:=cc5) HM3.out.o0 hn5
 have p75:=HM3.out.p7.near (c2:=cc5) HM3.out.o7 hn5
 have B5:Below base w w5:=(B2.trans (BA.mono hb2)).trans hb5
 have M5':SwO w5 base ⟨a0,c0,a1,c1,a2,c2,a3,c3,A5,cc5,a5,c5,a6,c6,A,c⟩ (describeW s):=by
  rw [HE.out]
  exact ⟨M5.o0,M5.o1,M5.o2,M5.o3,hO5,M5.o5,M5.o6,M5.o7,p05,p75⟩
 obtain ⟨W6,hW6⟩:∃ W6,w5.setCell ⟨w.heap.size,5,none⟩ (.slice A5 (s.desc.length + 1) cc5) = W6:=⟨_,rfl⟩
 have M6:SwO W6 base ⟨a0,c0,a1,c1,a2,c2,a3,c3,A5,cc5,a5,c5,a6,c6,A,c⟩ (describeW s):=by rw [← hW6];exact M5'.farO kB5 [.slice A5 (s.desc.length + 1) cc5]
 have kB6:Blk W6 w.heap.size 35 #[.int .i64 s.cap,.slice a0 s.sl.refs.length c0,.slice a1 s.sl.busy.length c1,.slice a2 s.wr.length c2,.slice a3 s.rd.length c3,.slice A5 (s.desc.length + 1) cc5,.slice a5 s.dk.cells.length c5,.slice a6 s.dk.jobs.length c6,.int .i64 s.dk.room,.int .i64 s.po.size,.slice A l.length c]:=by rw [← hW6];exact kB5.set_ 5 _
 have kR6:Blk W6 (w.heap.size + 1) 35 zkz.toArray:=by rw [← hW6];exact kR5.far_ (by simp) _
 have B6:Below base w W6:=by rw [← hW6];exact B5.setCell (p:=⟨w.heap.size,5,none⟩) hbw _
 rw [hW6]
 clear hW6 M5 M5' hk5 hn5 hO5 hb5 qq5 qqf5 kB5 kR5
 have zB6:=kB6.lt
 have zR6:=kR6.lt
 have HM6:=Lib.hid M6
 obtain ⟨y0,y1,y2,y3,y4,y5,y6,y7,y8,y9,y10⟩:=zc11 kB6
 obtain ⟨t0,t1,t2,t3,t4,t5,t6,t7,t8,t9,t10⟩:=zc11 kR6
 obtain ⟨tf0,tf1,tf2,tf3,tf4,tf5,tf6,tf7,tf8,tf9,tf10,-⟩:=zf kR6
 clear M6
 go_wp2_with fail
 obtain ⟨W,hW⟩:∃ W,setN W6 (w.heap.size + 1) 0 [.int .i64 s.cap,.slice a0 s.sl.refs.length c0,.slice a1 s.sl.busy.length c1,.slice a2 s.wr.length c2,.slice a3 s.rd.length c3,.slice A5 (s.desc.length + 1) cc5,.slice a5 s.dk.cells.length c5,.slice a6 s.dk.jobs.length c6,.int .i64 s.dk.room,.int .i64 s.po.size,.slice A l.length c] = W:=⟨_,rfl⟩
 have hWn:=zs11 hW
 have kW:=zsw hW kR6
 have bW:=zbw hW B6 (by omega)
 have MW:SwO W base ⟨a0,c0,a1,c1,a2,c2,a3,c3,A5,cc5,a5,c5,a6,c6,A,c⟩ (describeW s):=by rw [← hW];exact HM6.out.farO kR6 _
 rw [hWn]
 clear hWn hW t0 tf0 y0 t1 tf1 y1 t2 tf2 y2 t3 tf3 y3 t4 tf4 y4 t5 tf5 y5 t6 tf6 y6 t7 tf7 y7 t8 tf8 y8 t9 tf9 y9 t10 tf10 y10
 refine bodyPost_ret (by simp [results,Tryz.results58,go_sem,zc11 kW] <;> rfl) rfl ?_
 refine ⟨⟨a0,c0,a1,c1,a2,c2,a3,c3,A5,cc5,a5,c5,a6,c6,A,c⟩,?_,MW,bW⟩
 rw [HE.out]
 simp [swV,swC]
def SwPr (R:Swp) (z:List Value) (w:World) (e:Ending) (w':World):Prop:=∃ L,e = .returned (.tuple (swV L R :: z).toArray)∧SwR w' L R∧Below w.heap.size w w'
def wntW (s:Swp) (n f p:Int):Int:=if chkW s ≠ 0 then chkW s else if !frW f then 2 else askW s n p
theorem any_tms (s:Swp) {p:Int} (hp:p ≠ 0):((wtW s).any fun x => decide (x.1 = p)) = decide (0 < tmsL (s.wr ++ s.rd) p):=by
 rw [Bool.eq_iff_iff,decide_eq_true_eq];have h:0 < tmsL (s.wr ++ s.rd) p ↔ ¬ tmsL (s.wr ++ s.rd) p = 0:=by omega
 rw [h,tmsL_zero,List.any_eq_true]
 constructor
 ·rintro ⟨x,hx,e⟩ hn
  unfold wtW at hx;obtain ⟨v,hv,rfl⟩:=List.mem_map.1 hx;exact hn v (List.mem_filter.1 hv).1 (by simpa using e)
 ·intro hn
  have:∃ v ∈ s.wr ++ s.rd,v.2.2 = p:=by
   apply Classical.byContradiction;intro h
   exact hn fun v hv e => h ⟨v,hv,e⟩
  obtain ⟨v,hv,e⟩:=this;exact ⟨(v.2.2,v.1),List.mem_map.2 ⟨v,List.mem_filter.2 ⟨hv,by simpa [e] using hp⟩,rfl⟩,by simpa using e⟩
theorem rwWants_any (L:Lay) (s:Swp) (n f p:Int) (w:World) (h:SwR w L s) (hf:Few s):Calls Tryz.prog 91 #[swV L s,.int .i64 n,.int .i64 f,.int .i64 p] w fun e w' => e = .returned (.int .i64 (wntW s n f p))∧Below w.heap.size w w':=by
 obtain ⟨a0,c0,a1,c1,a2,c2,a3,c3,a4,c4,a5,c5,a6,c6,a7,c7⟩:=L;have HS:=Lib.hid h;have HF:=Lib.hid hf;obtain ⟨R,hR⟩:∃ R,wntW s n f p = R:=⟨_,rfl⟩;rw [hR];have HR:=Lib.hid hR;have f0:=hf.f0;clear h hf hR;obtain ⟨z,hzz⟩:∃ z,chkW s = z:=⟨_,rfl⟩;have HZZ:=Lib.hid hzz
 have hC:=fun W hw => rwCheck_any ⟨a0,c0,a1,c1,a2,c2,a3,c3,a4,c4,a5,c5,a6,c6,a7,c7⟩ s W hw HF.out
 rw [hzz] at hC;have HC:=Lib.hid hC;clear hC hzz;unfold swV swC at HC ⊢;obtain ⟨X,hX⟩:∃ X,w.alloc (.cells (zkx s a0 c0 a1 c1 a2 c2 a3 c3 a4 c4 a5 c5 a6 c6 a7 c7).toArray 35) = X:=⟨_,rfl⟩;have kX:Blk X w.heap.size 35 (zkx s a0 c0 a1 c1 a2 c2 a3 c3 a4 c4 a5 c5 a6 c6 a7 c7).toArray:=by rw [← hX];exact zbk
 have BX:Below w.heap.size w X:=by rw [← hX];exact zbl
 have zkX:=kX.lt;obtain ⟨q0,q1,q2,q3,q4,q5,q6,q7,q8,q9,q10⟩:=zc11 kX
 go_enter Tryz.func91,Tryz.ntmps91
 go_wp2_with fail;(try rw [hX]);clear hX;refine (HC.out X (HS.out.ext BX)).mono ?_;rintro e1 w1 ⟨rfl,hb1⟩;have B1:=zbt BX hb1;replace kX:=kX.below_ hb1 kX.lt;clear hb1;clear zkX q0 q1 q2 q3 q4 q5 q6 q7 q8 q9 q10
 by_cases z0:z = 0
 ·subst z0
  have zkX:=kX.lt;obtain ⟨q0,q1,q2,q3,q4,q5,q6,q7,q8,q9,q10⟩:=zc11 kX
  cases d1:decide (n < 0) with
  | true =>
   have HE:Hid (R = 2):=by show _ = _;rw [← HR.out];unfold wntW askW;rw [HZZ.out,if_neg (by simp)];have:=of_decide_eq_true d1;split;rfl;rw [if_pos (.inl this)]
   go_wp2_with fail;go_ret;exact ⟨by rw [HE.out];rfl,B1⟩
  | false =>
   cases d2:decide (n ≥ (s.sl.refs.length:Int)) with
   | true =>
    have HE:Hid (R = 2):=by show _ = _;rw [← HR.out];unfold wntW askW;rw [HZZ.out,if_neg (by simp)];have:=of_decide_eq_true d2;split;rfl;rw [if_pos (.inr (.inl this))]
    go_wp2_with fail;go_ret;exact ⟨by rw [HE.out];rfl,B1⟩
   | false =>
    cases d3:decide (0 ≤ f∧f < 256) with
    | false =>
     have HE:Hid (R = 2):=by show _ = _;rw [← HR.out];unfold wntW frW;rw [HZZ.out,if_neg (by simp),d3];rfl
     go_wp2_with (go_at_call 52;refine (rwFrame_b _ _ d3 _).mono ?_;rintro e w' ⟨rfl,rfl⟩)
     go_ret;exact ⟨by rw [HE.out];rfl,B1⟩
    | true =>
     have HD3:Hid (frW f = true):=d3
     cases d4:decide (p < 1) with
     | true =>
      have HE:Hid (R = 2):=by show _ = _;rw [← HR.out];unfold wntW askW;rw [HZZ.out,if_neg (by simp),HD3.out,if_neg (by simp)];have:=of_decide_eq_true d4;rw [if_pos (.inr (.inr (.inl this)))]
      go_wp2_with (go_at_call 52;refine (rwFrame_b _ _ d3 _).mono ?_;rintro e w' ⟨rfl,rfl⟩)
      go_ret;exact ⟨by rw [HE.out];rfl,B1⟩
     | false =>
      cases d5:decide (p > 8) with
      | true =>
       have HE:Hid (R = 2):=by show _ = _;rw [← HR.out];unfold wntW askW;rw [HZZ.out,if_neg (by simp),HD3.out,if_neg (by simp)];have:=of_decide_eq_true d5;rw [if_pos (.inr (.inr (.inr this)))]
       go_wp2_with (go_at_call 52;refine (rwFrame_b _ _ d3 _).mono ?_;rintro e w' ⟨rfl,rfl⟩)
       go_ret;exact ⟨by rw [HE.out];rfl,B1⟩
      | false =>
       obtain ⟨k,rfl⟩:∃ k:Nat,n = k:=⟨n.toNat,by have:=of_decide_eq_false d1;omega⟩;have hk:k < s.sl.refs.length:=by have:=of_decide_eq_false d2;omega
       have HR2:Hid (R = if 0 < tmsL (s.wr ++ s.rd) p then 7 else if refT s.sl k = 0 then 9 else 0):=by
        show _ = _;have h4:=of_decide_eq_false d4;have h5:=of_decide_eq_false d5;rw [← HR.out];unfold wntW askW;rw [HZZ.out,if_neg (by simp),HD3.out,if_neg (by simp),if_neg (by omega),any_tms s (by omega),Int.toNat_natCast];simp
       obtain ⟨m,hm⟩:∃ m:Nat,tmsL (s.wr ++ s.rd) p = m:=⟨_,rfl⟩;have hT:=rwTimes_any ⟨a0,c0,a1,c1,a2,c2,a3,c3,a4,c4,a5,c5,a6,c6,a7,c7⟩ s p w1 (HS.out.ext B1) HF.out;rw [hm] at HR2 hT;have HT:=Lib.hid hT;clear hT hm;unfold swV swC at HT
       go_wp2_with (go_at_call 52;refine (rwFrame_b _ _ d3 _).mono ?_;rintro e w' ⟨rfl,rfl⟩)
       refine HT.out.mono ?_;rintro e2 w2 ⟨rfl,hb2⟩;have B2:=zbt B1 hb2;replace kX:=kX.below_ hb2 kX.lt;clear hb2;clear zkX q0 q1 q2 q3 q4 q5 q6 q7 q8 q9 q10
       cases d6:decide (0 < m) with
       | true =>
        have HE:Hid (R = 7):=by show _ = _;rw [HR2.out,if_pos (of_decide_eq_true d6)]
        go_wp2_with fail;go_ret;exact ⟨by rw [HE.out];rfl,B2⟩
       | false =>
        obtain ⟨b,off,x,hA,hbl,hx,hc⟩:=(HS.out.ext B2).r0.at_ (k:=k) hk;dsimp only at hA;subst hA;have c0':w2.cell? ⟨b,off + k,none⟩ = some (.int .i64 x):=by simpa [show intE.sz = 1 from rfl] using hc 0 (.int .i64 x) rfl
        have i1:(k:Int) < s.sl.refs.length:=by omega
        have HX:Hid (refT s.sl k = x):=by show _ = _;unfold refT;rw [List.getD_eq_getElem?_getD,hx];rfl
        have HR3:Hid (R = if x = 0 then 9 else 0):=by show _ = _;rw [HR2.out,if_neg (of_decide_eq_false d6),HX.out]
        have zX:=kX.lt;have y1:=zc kX 1;clear hc hx
        cases d7:(x == 0) with
        | true =>
         have HE:Hid (R = 9):=by show _ = _;rw [HR3.out,if_pos (by simpa using d7)]
         go_wp2_with fail;go_ret;exact ⟨by rw [HE.out];rfl,B2⟩
        | false =>
         have HE:Hid (R = 0):=by show _ = _;rw [HR3.out,if_neg (by simpa using d7)]
         go_wp2_with fail;go_ret;exact ⟨by rw [HE.out];rfl,B2⟩
 ·have HE:Hid (R = z):=by show _ = _;rw [← HR.out];unfold wntW;rw [HZZ.out,if_pos z0]
  have zb:(z != 0) = true:=by simpa using z0
  clear z0;go_wp2_with fail;go_ret;exact ⟨by rw [HE.out];rfl,B1⟩
theorem redW_wnt (s:Swp) (n f p:Int):redW s n f p = if wntW s n f p ≠ 0 then (.zero,wntW s n f p) else if bsyT s.sl n.toNat || usW s f then (.zero,10) else
 if s.dk.room ≤ s.dk.jobs.length then (.zero,5) else (describeW { s with sl:=(staT s.sl n).1,dk:=(addD s.dk ⟨false,n,f,.zero⟩).1,rd:=s.rd ++ [(n,f,p)] },0):=by
 unfold redW wntW
 by_cases h1:chkW s ≠ 0
 ·simp only [if_pos h1]
 simp only [if_neg h1]
 cases h2:frW f with
 | false => rfl
 | true => rfl
theorem wnt_zero {s:Swp} {n f p:Int} (h:wntW s n f p = 0):OkS s∧frW f = true∧askW s n p = 0:=by
 unfold wntW at h
 by_cases h1:chkW s ≠ 0
 ·rw [if_pos h1] at h;exact absurd h h1
 rw [if_neg h1] at h
 cases h2:frW f with
 | false => rw [h2] at h;cases h
 | true => rw [h2] at h;exact ⟨chkW_ok.1 (by simpa using h1),rfl,h⟩
theorem rwReadIn_any (L:Lay) (s:Swp) (n f p:Int) (w:World) (h:SwR w L s) (hf:Few s) :
  Calls Tryz.prog 31 #[swV L s,.int .i64 n,.int .i64 f,.int .i64 p] w (SwPr (redW s n f p).1 [.int .i64 (redW s n f p).2] w):=by
 obtain ⟨a0,c0,a1,c1,a2,c2,a3,c3,a4,c4,a5,c5,a6,c6,a7,c7⟩:=L
 have HA:=Lib.hid h
 have HFW:=Lib.hid hf
 obtain ⟨Q,hQ⟩:∃ Q,redW s n f p = Q:=⟨_,rfl⟩
 rw [hQ]
 rw [redW_wnt] at hQ
 have HQ:=Lib.hid hQ
 clear hQ h hf
 unfold swV swC
 obtain ⟨X,hX⟩:∃ X,(w.alloc (.cells (zkx s a0 c0 a1 c1 a2 c2 a3 c3 a4 c4 a5 c5 a6 c6 a7 c7).toArray 35)).alloc (.cells zkz.toArray 35) = X:=⟨_,rfl⟩
 have kX:=za1 hX
 have kR:=za2 hX
 have BX:Below w.heap.size w X:=by rw [← hX];exact zbl
 obtain ⟨z,hzz⟩:∃ z,wntW s n f p = z:=⟨_,rfl⟩
 have HZZ:=Lib.hid hzz
 have hC:=rwWants_any ⟨a0,c0,a1,c1,a2,c2,a3,c3,a4,c4,a5,c5,a6,c6,a7,c7⟩ s n f p X (HA.out.ext BX) HFW.out
 rw [hzz] at hC
 have HC:=Lib.hid hC
 clear hC hzz
 have zkX:=kX.lt
 obtain ⟨q0,q1,q2,q3,q4,q5,q6,q7,q8,q9,q10⟩:=zc11 kX
 go_enter Tryz.func31,Tryz.ntmps31
 go_wp2_with fail
 (try rw [hX])
 clear hX
 refine HC.out.mono ?_
 rintro e1 w1 ⟨rfl,hb1⟩
 have B1:=zbt BX hb1
 replace kX:=kX.below_ hb1 kX.lt
 replace kR:=kR.below_ hb1 kR.lt
 clear hb1
 clear zkX q0 q1 q2 q3 q4 q5 q6 q7 q8 q9 q10
 by_cases z0:z = 0
 ·subst z0
  obtain ⟨hok,hfr,hak⟩:=wnt_zero HZZ.out
  have HOK:=Lib.hid hok
  have HFRW:=Lib.hid hfr
  have HAK:=Lib.hid hak
  obtain ⟨⟨a1,a2,_,_⟩,_,a6⟩:=askW_zero.1 hak
  obtain ⟨k,rfl⟩:∃ k:Nat,n = k:=⟨n.toNat,by omega⟩
  have hk:k < s.sl.refs.length:=by omega
  have HRF:Hid (refT s.sl k ≠ 0):=by show _ ≠ _;rw [Int.toNat_natCast] at a6;omega
  clear hok hfr hak a1 a2 a6
  obtain ⟨bb,ob,xb,hA1,zbb,hxb,hcb⟩:=(HA.out.ext B1).r1.at_ (k:=k) (by have:=HOK.out.sl.blen;omega)
  dsimp only at hA1
  subst hA1
  have cb:w1.cell? ⟨bb,ob + k,none⟩ = some (.bool xb):=by simpa [show boolE.sz = 1 from rfl] using hcb 0 (.bool xb) rfl
  have HXB:Hid (bsyT s.sl k = xb):=by show _ = _;unfold bsyT;rw [List.getD_eq_getElem?_getD,hxb];rfl
  have i1:(k:Int) < s.sl.busy.length:=by have:=HOK.out.sl.blen;omega
  clear hxb hcb
  have HQ2:Hid ((if xb || usW s f then (.zero,10) else if s.dk.room ≤ s.dk.jobs.length then (.zero,5) else (describeW { s with sl:=(staT s.sl k).1,dk:=(addD s.dk ⟨false,k,f,.zero⟩).1,rd:=s.rd ++ [((k:Int),f,p)] },0)) = Q):=by
   show _ = _
   have h:=HQ.out
   rw [HZZ.out,if_neg (by simp),Int.toNat_natCast,HXB.out] at h
   exact h
  cases xb with
  | true =>
   have HE:Hid (Q = (.zero,10)):=by show _ = _;rw [← HQ2.out];rfl
   have zkX:=kX.lt
   obtain ⟨q0,q1,q2,q3,q4,q5,q6,q7,q8,q9,q10⟩:=zc11 kX
   have ztR:=kR.lt
   obtain ⟨t0,t1,t2,t3,t4,t5,t6,t7,t8,t9,t10⟩:=zc11 kR
   obtain ⟨tf0,tf1,tf2,tf3,tf4,tf5,tf6,tf7,tf8,tf9,tf10,-⟩:=zf kR
   go_wp2_with fail
   obtain ⟨W,hW⟩:∃ W,setN w1 (w.heap.size + 1) 0 zkz = W:=⟨_,rfl⟩
   have hWn:=zs11 hW
   have kW:=zsw hW kR
   have bW:=zbw hW B1 (by omega)
   rw [hWn]
   clear hWn hW t0 tf0 t1 tf1 t2 tf2 t3 tf3 t4 tf4 t5 tf5 t6 tf6 t7 tf7 t8 tf8 t9 tf9 t10 tf10
   refine bodyPost_ret (by simp [results,Tryz.results31,go_sem,zc11 kW] <;> rfl) rfl ?_
   rw [HE.out]
   exact ⟨.zero,rfl,(SwO.zero (base:=0)).sw,bW⟩
  | false =>
   obtain ⟨us,hus⟩:∃ b,usW s f = b:=⟨_,rfl⟩
   have HUS:=Lib.hid hus
   have hF:=rwWorking_any ⟨a0,c0,some ⟨bb,ob,none⟩,c1,a2,c2,a3,c3,a4,c4,a5,c5,a6,c6,a7,c7⟩ s f w1 (HA.out.ext B1).r6 HFW.out.f6
   rw [hus] at hF
   have HF:=Lib.hid hF
   clear hF hus
   unfold swV swC at HF
   have zkX:=kX.lt
   obtain ⟨q0,q1,q2,q3,q4,q5,q6,q7,q8,q9,q10⟩:=zc11 kX
   go_wp2_with fail
   refine HF.out.mono ?_
   rintro e2 w2 ⟨rfl,hb2⟩
   have B2:=zbt B1 hb2
   replace kX:=kX.below_ hb2 kX.lt
   replace kR:=kR.below_ hb2 kR.lt
   clear hb2
   clear zkX q0 q1 q2 q3 q4 q5 q6 q7 q8 q9 q10
   cases us with
   | true =>
    have HE:Hid (Q = (.zero,10)):=by show _ = _;rw [← HQ2.out,HUS.out];rfl
    have ztR:=kR.lt
    obtain ⟨t0,t1,t2,t3,t4,t5,t6,t7,t8,t9,t10⟩:=zc11 kR
    obtain ⟨tf0,tf1,tf2,tf3,tf4,tf5,tf6,tf7,tf8,tf9,tf10,-⟩:=zf kR
    go_wp2_with fail
    obtain ⟨W,hW⟩:∃ W,setN w2 (w.heap.size + 1) 0 zkz = W:=⟨_,rfl⟩
    have hWn:=zs11 hW
    have kW:=zsw hW kR
    have bW:=zbw hW B2 (by omega)
    rw [hWn]
    clear hWn hW t0 tf0 t1 tf1 t2 tf2 t3 tf3 t4 tf4 t5 tf5 t6 tf6 t7 tf7 t8 tf8 t9 tf9 t10 tf10
    refine bodyPost_ret (by simp [results,Tryz.results31,go_sem,zc11 kW] <;> rfl) rfl ?_
    rw [HE.out]
    exact ⟨.zero,rfl,(SwO.zero (base:=0)).sw,bW⟩
   | false =>
    cases g1:((s.dk.jobs.length:Int) == s.dk.room) with
    | true =>
     have HE:Hid (Q = (.zero,5)):=by show _ = _;rw [← HQ2.out,HUS.out];rw [if_neg (by simp),if_pos (by simp at g1;omega)]
     have zkX:=kX.lt
     obtain ⟨-,-,-,-,-,-,-,q7,q8,-⟩:=zc11 kX
     have ztR:=kR.lt
     obtain ⟨t0,t1,t2,t3,t4,t5,t6,t7,t8,t9,t10⟩:=zc11 kR
     obtain ⟨tf0,tf1,tf2,tf3,tf4,tf5,tf6,tf7,tf8,tf9,tf10,-⟩:=zf kR
     go_wp2_with fail
     obtain ⟨W,hW⟩:∃ W,setN w2 (w.heap.size + 1) 0 zkz = W:=⟨_,rfl⟩
     have hWn:=zs11 hW
     have kW:=zsw hW kR
     have bW:=zbw hW B2 (by omega)
     rw [hWn]
     clear hWn hW t0 tf0 t1 tf1 t2 tf2 t3 tf3 t4 tf4 t5 tf5 t6 tf6 t7 tf7 t8 tf8 t9 tf9 t10 tf10
     refine bodyPost_ret (by simp [results,Tryz.results31,go_sem,zc11 kW] <;> rfl) rfl ?_
     rw [HE.out]
     exact ⟨.zero,rfl,(SwO.zero (base:=0)).sw,bW⟩
    | false =>
     have hroom:(s.dk.jobs.length:Int) < s.dk.room:=by have:=HOK.out.dk.few;simp at g1;omega
     obtain ⟨d,l,hfr,p1,p2,p3,p4⟩:=red_parts HOK.out HFRW.out HAK.out (by rw [Int.toNat_natCast];exact HXB.out) HUS.out hroom
     rw [Int.toNat_natCast] at p1
     obtain ⟨T,hT⟩:∃ T,witT s.sl k (refT s.sl k) true = T:=⟨_,rfl⟩
     obtain ⟨D,hD⟩:∃ D,(⟨s.dk.cells,s.dk.jobs ++ [⟨false,k,f,.zero⟩],s.dk.room⟩:Dsk) = D:=⟨_,rfl⟩
     obtain ⟨S7,hS7⟩:∃ S7,describeW { s with sl:=T,dk:=D,rd:=s.rd ++ [((k:Int),f,p)] } = S7:=⟨_,rfl⟩
     have HS7:=Lib.hid hS7
     have HE:Hid (Q = (S7,0)):=by
      show _ = _
      rw [← HQ2.out,← hS7,HUS.out,if_neg (by simp),if_neg (by omega)]
      simp only [p1,p2,hT,hD]
     have hAL:=fun A B c d W h1 h2 => rsStart_any A B c d s.sl k W h1 h2 HOK.out.sl hk HXB.out HRF.out
     rw [hT] at hAL
     have HAL:=Lib.hid hAL
     have hRD:=fun A B c d W h1 h2 => rdRead_any A B c d s.dk k f W h1 h2 HFW.out.f5 HFW.out.f6 (by rw [p2])
     rw [p2,hD] at hRD
     have HRD:=Lib.hid hRD
     have HOP:=Lib.hid HOK.out.po
     have HFR:=Lib.hid hfr
     have HDL:=Lib.hid HFW.out.f4
     have frd:=HFW.out.f3
     clear p1 p2 p3 p4 hfr hT hD hS7 hAL hRD hroom
     have HL:=Lib.hid (rwOwn_any ⟨a0,c0,some ⟨bb,ob,none⟩,c1,a2,c2,a3,c3,a4,c4,a5,c5,a6,c6,a7,c7⟩ s w2 (HA.out.ext B2) HFW.out)
     have zkX:=kX.lt
     obtain ⟨q0,q1,q2,q3,q4,q5,q6,q7,q8,q9,q10⟩:=zc11 kX
     go_wp2_with fail
     refine HL.out.mono ?_
     rintro e4 w4 ⟨⟨b0,k0,b1,k1,b2,k2,b3,k3,b4,k4,b5,k5,b6,k6,b7,k7⟩,rfl,O4,hb4⟩
     have hw34:=hb4.size
     have HKR0:w.heap.size + 1 < w2.heap.size:=kR.lt
     have B4:=zbt B2 hb4
     replace kR:=kR.below_ hb4 kR.lt
     clear hb4
     clear zkX q0 q1 q2 q3 q4 q5 q6 q7 q8 q9 q10
     unfold swV swC
     dsimp only
     go_upto_region 9 with fail
     obtain ⟨V4,hV4⟩:∃ V,w4.alloc (.cells (zkx s b0 k0 b1 k1 b2 k2 b3 k3 b4 k4 b5 k5 b6 k6 b7 k7).toArray 35) = V:=⟨_,rfl⟩
     obtain ⟨G,hG⟩:∃ G,w4.heap.size = G:=⟨_,rfl⟩
     have kG:Blk V4 G 35 (zkx s b0 k0 b1 k1 b2 k2 b3 k3 b4 k4 b5 k5 b6 k6 b7 k7).toArray:=by rw [← hV4,← hG];exact Blk.new_ rfl rfl
     have BV4:=zab hV4
     have O4V:=O4.ext BV4
     replace kR:=kR.below_ BV4 kR.lt
     replace B4:=B4.trans (BV4.mono B4.size)
     have hV4s:w2.heap.size ≤ V4.heap.size:=by have:=BV4.size;omega
     have hwG:w.heap.size ≤ G:=by omega
     have hGw:w2.heap.size ≤ G:=by omega
     rw [hV4,hG]
     clear hV4 hG BV4 O4
     have zG:=kG.lt
     obtain ⟨-,u1,u2,-⟩:=zc11 kG
     go_wp2_with fail
     refine (HAL.out b0 b1 k0 k1 V4 O4V.o0.sr O4V.o1.sr).mono ?_
     rintro e5 w5 ⟨A,c,B1,d1,rfl,oI,oB,hb5⟩
     unfold stV
     dsimp only
     clear u1 u2
     have kG5:=kG.below_ hb5 zG
     have zG5:=kG5.lt
     replace kR:=kR.below_ hb5 kR.lt
     obtain ⟨-,u1,u2,-⟩:=zc11 kG5
     obtain ⟨-,uf1,uf2,-⟩:=zf kG5
     go_upto_region 10 with fail
     obtain ⟨U5,hU5⟩:∃ U,setN w5 G 1 [.slice A T.refs.length c,.slice B1 T.busy.length d1] = U:=⟨_,rfl⟩
     have hU5n:World.setCell (World.setCell w5 ⟨G,1,none⟩ (.slice A T.refs.length c)) ⟨G,2,none⟩ (.slice B1 T.busy.length d1) = U5:=hU5
     have kG_:Blk U5 G 35 #[.int .i64 s.cap,.slice A T.refs.length c,.slice B1 T.busy.length d1,.slice b2 s.wr.length k2,.slice b3 s.rd.length k3,.slice b4 s.desc.length k4,.slice b5 s.dk.cells.length k5,.slice b6 s.dk.jobs.length k6,.int .i64 s.dk.room,.int .i64 s.po.size,.slice b7 s.po.free.length k7]:=by rw [← hU5];exact (Blk.set_ (Blk.set_ kG5 1 _) 2 _)
     replace kR:=(show Blk U5 _ _ _ from by rw [← hU5];exact kR.kept (grown_setN _ _ _ _) (by simp;omega))
     have O5:SwO U5 w2.heap.size ⟨A,c,B1,d1,b2,k2,b3,k3,b4,k4,b5,k5,b6,k6,b7,k7⟩ { s with sl:=T }:=by
      rw [← hU5]
      have x:=O4V.ext hb5
      exact SwO.farO (L:=⟨A,c,B1,d1,b2,k2,b3,k3,b4,k4,b5,k5,b6,k6,b7,k7⟩) (s:={ s with sl:=T }) ⟨oI.base_ hV4s,oB.base_ hV4s,x.o2,x.o3,x.o4,x.o5,x.o6,x.o7,(O4V.o4.part oI (Nat.le_refl _)).symm,x.p7⟩ kG5 _
     have B5:Below w.heap.size w U5:=by rw [← hU5];exact below_setN (B4.trans (hb5.mono B4.size)) hwG _
     have s5:V4.heap.size ≤ U5.heap.size:=by rw [← hU5];exact Nat.le_trans hb5.size (size_setN _)
     rw [hU5n]
     clear hU5n hU5 oI oB hb5 kG kG5 zG zG5 u1 u2 uf1 uf2
     have kG:=kG_
     clear kG_
     have zG:=kG.lt
     obtain ⟨-,-,-,-,-,-,u6,u7,u8,-⟩:=zc11 kG
     go_wp2_with fail
     refine (HRD.out b5 b6 k5 k6 U5 O5.o5.sr O5.o6.sr).mono ?_
     rintro e6 w6 ⟨A6,d6,A7,d7,rfl,oC,oJ,hb6⟩
     unfold dkV
     dsimp only
     clear u6 u7 u8
     have kG6:=kG.below_ hb6 zG
     have zG6:=kG6.lt
     replace kR:=kR.below_ hb6 kR.lt
     obtain ⟨-,-,-,-,-,-,u6,u7,u8,-⟩:=zc11 kG6
     obtain ⟨-,-,-,-,-,-,uf6,uf7,uf8,-⟩:=zf kG6
     go_upto_region 11 with fail
     obtain ⟨U6,hU6⟩:∃ U,setN w6 G 6 [.slice A6 D.cells.length d6,.slice A7 D.jobs.length d7,.int .i64 D.room] = U:=⟨_,rfl⟩
     have hU6n:World.setCell (World.setCell (World.setCell w6 ⟨G,6,none⟩ (.slice A6 D.cells.length d6)) ⟨G,7,none⟩ (.slice A7 D.jobs.length d7)) ⟨G,8,none⟩ (.int .i64 D.room) = U6:=hU6
     have kG_:Blk U6 G 35 #[.int .i64 s.cap,.slice A T.refs.length c,.slice B1 T.busy.length d1,.slice b2 s.wr.length k2,.slice b3 s.rd.length k3,.slice b4 s.desc.length k4,.slice A6 D.cells.length d6,.slice A7 D.jobs.length d7,.int .i64 D.room,.int .i64 s.po.size,.slice b7 s.po.free.length k7]:=by rw [← hU6];exact (Blk.set_ (Blk.set_ (Blk.set_ kG6 6 _) 7 _) 8 _)
     replace kR:=(show Blk U6 _ _ _ from by rw [← hU6];exact kR.kept (grown_setN _ _ _ _) (by simp;omega))
     have O6:SwO U6 w2.heap.size ⟨A,c,B1,d1,b2,k2,b3,k3,b4,k4,A6,d6,A7,d7,b7,k7⟩ { s with sl:=T,dk:=D }:=by
      rw [← hU6]
      have x:=O5.ext hb6
      exact SwO.farO (L:=⟨A,c,B1,d1,b2,k2,b3,k3,b4,k4,A6,d6,A7,d7,b7,k7⟩) (s:={ s with sl:=T,dk:=D }) ⟨x.o0,x.o1,x.o2,x.o3,x.o4,oC.base_ (by omega),oJ.base_ (by omega),x.o7,x.p0,x.p7⟩ kG6 _
     have B6:Below w.heap.size w U6:=by rw [← hU6];exact below_setN (B5.trans (hb6.mono B5.size)) hwG _
     have s6:U5.heap.size ≤ U6.heap.size:=by rw [← hU6];exact Nat.le_trans hb6.size (size_setN _)
     rw [hU6n]
     clear hU6n hU6 oC oJ hb6 kG kG6 zG zG6 u6 u7 u8 uf6 uf7 uf8
     have kG:=kG_
     clear kG_
     have zG:=kG.lt
     have BA:Below U6.heap.size U6 (U6.alloc (.cells #[.int .i64 k,.int .i64 f,.int .i64 p] 100)):=(Below.refl _ _).alloc (Nat.le_refl _) _
     have HO6:=Lib.hid (O6.ext BA)
     have HKG:=Lib.hid (kG.below_ BA zG)
     have HNN:=Lib.hid (HO6.out.o3.notT HKG.out (by decide))
     have HKR:=Lib.hid (kR.below_ BA kR.lt)
     have HNR:=Lib.hid (HO6.out.o3.notT HKR.out (by decide))
     have hb6s:w2.heap.size ≤ U6.heap.size:=by omega
     clear O6
     obtain ⟨-,-,-,-,u4,-⟩:=zc11 kG
     go_upto_region 12 with (at_builtin;refine wpList_appE2 rdE rfl (.tmp 65) (.tmp 70) _ rfl rfl _ w2.heap.size (Nat.le_trans hb6s BA.size) b3 k3 s.rd.length s.rd rfl HO6.out.o3 (some ⟨U6.heap.size,0,none⟩) 1 1 [((k:Int),f,p)] rfl (SR.of_blk (E:=rdE) (l:=[((k:Int),f,p)]) (t:=100) (Blk.new_ rfl rfl)) (Nat.zero_lt_one) (by show s.rd.length + 1 ≤ 10000;omega) rfl rfl ?_;rw [show (s.rd ++ [((k:Int),f,p)]).length = s.rd.length + 1 from by simp];intro A5 cc5 w7 hO7 hb7 hk7 hn7;have kG7:=hk7.blk HKG.out HNN.out;have zG7:=kG7.lt;have qq7:w7.cell? ⟨G,4,none⟩ = some (.slice b3 s.rd.length k3):=(by simpa using kG7.cell_ 4);have qqf7:=kG7.frozen_ 4)
     have kR7:=hk7.blk HKR.out HNR.out
     obtain ⟨U7,hU7⟩:∃ U,w7.setCell ⟨G,4,none⟩ (.slice A5 (s.rd.length + 1) cc5) = U:=⟨_,rfl⟩
     have O7:SwO U7 w2.heap.size ⟨A,c,B1,d1,b2,k2,A5,cc5,b4,k4,A6,d6,A7,d7,b7,k7⟩ { s with sl:=T,dk:=D,rd:=s.rd ++ [((k:Int),f,p)] }:=by
      rw [← hU7]
      exact SwO.farO (o:=4) (HO6.out.keptR hk7 hO7) kG7 [.slice A5 (s.rd.length + 1) cc5]
     have kG_:Blk U7 G 35 #[.int .i64 s.cap,.slice A T.refs.length c,.slice B1 T.busy.length d1,.slice b2 s.wr.length k2,.slice A5 (s.rd.length + 1) cc5,.slice b4 s.desc.length k4,.slice A6 D.cells.length d6,.slice A7 D.jobs.length d7,.int .i64 D.room,.int .i64 s.po.size,.slice b7 s.po.free.length k7]:=by rw [← hU7];exact kG7.set_ 4 _
     have kR_:Blk U7 (w.heap.size + 1) 35 zkz.toArray:=by rw [← hU7];exact kR7.far_ (by show w.heap.size + 1 ≠ G;omega) _
     have B7:Below w.heap.size w U7:=by rw [← hU7];exact ((B6.trans (BA.mono B6.size)).trans (hb7.mono (by omega))).setCell (p:=⟨G,4,none⟩) hwG _
     have s7:w2.heap.size ≤ U7.heap.size:=by have:=kG_.lt;omega
     rw [hU7]
     clear hU7 kG kR kG7 kR7 zG zG7 qq7 qqf7 hO7 hb7 hk7 hn7 u4
     have kG:=kG_
     have kR:=kR_
     clear kG_ kR_
     have zG:=kG.lt
     have HDE:=Lib.hid (rwDescribe_any _ _ w2.heap.size U7 O7 (by omega) HOP.out HFR.out HDL.out)
     unfold swV swC at HDE
     dsimp only at HDE
     rw [show (s.rd ++ [(((k:Int),f,p):Wr)]).length = s.rd.length + 1 from by simp,HS7.out] at HDE
     clear O7
     obtain ⟨u0,u1,u2,u3,u4,u5,u6,u7,u8,u9,u10⟩:=zc11 kG
     go_wp2_with fail
     refine HDE.out.mono ?_
     rintro e8 w8 ⟨⟨m0,n0,m1,n1,m2,n2,m3,n3,m4,n4,m5,n5,m6,n6,m7,n7⟩,rfl,O8,hb8⟩
     replace kR:=kR.below_ hb8 (by omega)
     have zR:=kR.lt
     have B8:Below w.heap.size w w8:=B7.trans (hb8.mono (by omega))
     clear hb8 u0 u1 u2 u3 u4 u5 u6 u7 u8 u9 u10
     dsimp only
     obtain ⟨t0,t1,t2,t3,t4,t5,t6,t7,t8,t9,t10⟩:=zc11 kR
     obtain ⟨tf0,tf1,tf2,tf3,tf4,tf5,tf6,tf7,tf8,tf9,tf10,-⟩:=zf kR
     have HO8:=Lib.hid O8
     clear O8
     go_wp2_with fail
     obtain ⟨W,hW⟩:∃ W,setN w8 (w.heap.size + 1) 0 (zkx S7 m0 n0 m1 n1 m2 n2 m3 n3 m4 n4 m5 n5 m6 n6 m7 n7) = W:=⟨_,rfl⟩
     have hWn:=zs11 hW
     have kW:=zsw hW kR
     have bW:=zbw hW B8 (by omega)
     have OW:SwO W w2.heap.size ⟨m0,n0,m1,n1,m2,n2,m3,n3,m4,n4,m5,n5,m6,n6,m7,n7⟩ S7:=by rw [← hW];exact HO8.out.farO kR _
     rw [hWn]
     clear hWn hW t0 tf0 t1 tf1 t2 tf2 t3 tf3 t4 tf4 t5 tf5 t6 tf6 t7 tf7 t8 tf8 t9 tf9 t10 tf10
     refine bodyPost_ret (by simp [results,Tryz.results31,go_sem,zc11 kW] <;> rfl) rfl ?_
     rw [HE.out]
     exact ⟨⟨m0,n0,m1,n1,m2,n2,m3,n3,m4,n4,m5,n5,m6,n6,m7,n7⟩,rfl,OW.sw,bW⟩
 ·have HE:Hid (Q = (.zero,z)):=by show _ = _;rw [← HQ.out,HZZ.out,if_pos z0]
  have zb:(z != 0) = true:=by simpa using z0
  clear z0
  have ztR:=kR.lt
  obtain ⟨t0,t1,t2,t3,t4,t5,t6,t7,t8,t9,t10⟩:=zc11 kR
  obtain ⟨tf0,tf1,tf2,tf3,tf4,tf5,tf6,tf7,tf8,tf9,tf10,-⟩:=zf kR
  go_wp2_with fail
  obtain ⟨W,hW⟩:∃ W,setN w1 (w.heap.size + 1) 0 zkz = W:=⟨_,rfl⟩
  have hWn:=zs11 hW
  have kW:=zsw hW kR
  have bW:=zbw hW B1 (by omega)
  rw [hWn]
  clear hWn hW t0 tf0 t1 tf1 t2 tf2 t3 tf3 t4 tf4 t5 tf5 t6 tf6 t7 tf7 t8 tf8 t9 tf9 t10 tf10
  refine bodyPost_ret (by simp [results,Tryz.results31,go_sem,zc11 kW] <;> rfl) rfl ?_
  rw [HE.out]
  exact ⟨.zero,rfl,(SwO.zero (base:=0)).sw,bW⟩
theorem wrE_put {w:World} {base c:Nat} {A:Option Addr} {l:List Wr} {i:Nat} {x:Wr} (h:OwnM wrE w base A c l) (hx:l[i]? = some x) :
  ∃ g cur,A = some ⟨g,0,none⟩∧base ≤ g∧Blk w g wrE.e cur∧w.cell? ⟨g,i * 3 + 2,none⟩ = some (.int .i64 x.2.2)∧∀ p,OwnM wrE (w.setCell ⟨g,i * 3 + 2,none⟩ (.int .i64 p)) base A c (l.set i (x.1,x.2.1,p)):=by
 obtain ⟨hi,ei⟩:=List.getElem?_eq_some_iff.1 hx
 have hr:OwnR wrE w base (.slice A l.length c) l:=h.own.resolve_left (fun e => by rw [e] at hi;simp at hi)
 obtain ⟨g,cur,rfl,_,hg,hB,h1,h2,h3,h4⟩:=hr.blk (by omega)
 refine ⟨g,cur,rfl,hg,hB,?_,fun p => ?_⟩
 ·obtain ⟨b,off,y,e,_,hy,hc⟩:=hr.sr.2.at_ hi
  injection e with e
  injection e with e1 e2
  subst e1 e2
  rw [hx] at hy
  injection hy with hy
  subst hy
  have:=hc 2 _ rfl
  rwa [show 0 + i * wrE.sz + 2 = i * 3 + 2 from by show 0 + i * 3 + 2 = _;omega] at this
 ·have key:OwnR wrE (w.setCell ⟨g,i * 3 + 2,none⟩ (.int .i64 p)) base (.slice (some ⟨g,0,none⟩) (l.set i (x.1,x.2.1,p)).length c) (l.set i (x.1,x.2.1,p)):=by
   unfold OwnR
   refine ⟨wrE.flat_length _,.inr ⟨g,c,cur.setIfInBounds (i * 3 + 2) (.int .i64 p),rfl,hg,hB.set_ _ _,by rw [List.length_set];exact h1,h2,by simpa using h3,?_⟩⟩
   rw [List.length_set,Array.toList_setIfInBounds,List.take_set,h4,wrE_flat,wrE_flat]
   rw [flat_set p l i x hx,List.map_set]
  exact ⟨by rw [List.length_set];exact h.len,.inr key⟩
def SwPo (R:Swp) (z:List Value) (w:World) (e:Ending) (w':World):Prop:=∃ L,e = .returned (.tuple (swV L R :: z).toArray)∧SwO w' 0 L R∧Below w.heap.size w w'
structure SgAt (w:World) (base G:Nat) (L:Lay) (s:Swp):Prop where
 blk:Blk w G 35 (swC L s).toArray
 own:SwO w base L s
theorem SgAt.putW {w:World} {base G:Nat} {L:Lay} {s:Swp} (h:SgAt w base G L s) {i:Nat} {x:Wr} (hx:s.wr[i]? = some x) :
  ∃ g,L.a2 = some ⟨g,0,none⟩∧base ≤ g∧g < w.heap.size∧w.cell? ⟨g,i * 3 + 2,none⟩ = some (.int .i64 x.2.2)∧w.frozen? ⟨g,i * 3 + 2,none⟩ = false∧∀ p,SgAt (w.setCell ⟨g,i * 3 + 2,none⟩ (.int .i64 p)) base G L { s with wr:=s.wr.set i (x.1,x.2.1,p) }:=by
 obtain ⟨g,cur,e,hg,hB,hc,hp⟩:=wrE_put h.own.o2 hx
 refine ⟨g,e,hg,hB.lt,hc,hB.frozen_ _,fun p => ⟨?_,?_⟩⟩
 ·have hne:G ≠ g:=by
   intro e2
   have h1:=h.blk
   rw [e2] at h1
   unfold Blk at h1 hB
   rw [hB] at h1
   injection h1 with h1
   injection h1 with _ h1
   revert h1
   show ¬ wrE.e = _
   decide
  have:=h.blk.far_ (p:=⟨g,i * 3 + 2,none⟩) hne (.int .i64 p)
  unfold swC at this ⊢
  dsimp only
  rw [List.length_set]
  exact this
 ·have x:=h.own
  exact ⟨x.o0.farB hB (by decide) _ _,x.o1.farB hB (by decide) _ _,hp p,x.o3.farB hB (by decide) _ _,x.o4.farB hB (by decide) _ _,x.o5.farB hB (by decide) _ _,x.o6.farB hB (by decide) _ _,x.o7.farB hB (by decide) _ _,x.p0,x.p7⟩
theorem SgAt.putR {w:World} {base G:Nat} {L:Lay} {s:Swp} (h:SgAt w base G L s) {i:Nat} {x:Wr} (hx:s.rd[i]? = some x) :
  ∃ g,L.a3 = some ⟨g,0,none⟩∧base ≤ g∧g < w.heap.size∧w.cell? ⟨g,i * 3 + 2,none⟩ = some (.int .i64 x.2.2)∧w.frozen? ⟨g,i * 3 + 2,none⟩ = false∧∀ p,SgAt (w.setCell ⟨g,i * 3 + 2,none⟩ (.int .i64 p)) base G L { s with rd:=s.rd.set i (x.1,x.2.1,p) }:=by
 obtain ⟨g,cur,e,hg,hB,hc,hp⟩:=rdE_put h.own.o3 hx
 refine ⟨g,e,hg,hB.lt,hc,hB.frozen_ _,fun p => ⟨?_,?_⟩⟩
 ·have hne:G ≠ g:=by
   intro e2
   have h1:=h.blk
   rw [e2] at h1
   unfold Blk at h1 hB
   rw [hB] at h1
   injection h1 with h1
   injection h1 with _ h1
   revert h1
   show ¬ rdE.e = _
   decide
  have:=h.blk.far_ (p:=⟨g,i * 3 + 2,none⟩) hne (.int .i64 p)
  unfold swC at this ⊢
  dsimp only
  rw [List.length_set]
  exact this
 ·have x:=h.own
  exact ⟨x.o0.farB hB (by decide) _ _,x.o1.farB hB (by decide) _ _,x.o2.farB hB (by decide) _ _,hp p,x.o4.farB hB (by decide) _ _,x.o5.farB hB (by decide) _ _,x.o6.farB hB (by decide) _ _,x.o7.farB hB (by decide) _ _,x.p0,x.p7⟩
theorem claW_wnt (s:Swp) (n p:Int):claW s n p = if wntW s n 0 p ≠ 0 then (.zero,wntW s n 0 p) else match s.wr.findIdx? (fun v => decide (v.1 = n)) with
  | none => (.zero,6)
  | some i => if (s.wr.getD i (0,0,0)).2.2 ≠ 0 then (.zero,10) else ({ s with wr:=setC s.wr i p },0):=by
 unfold claW wntW
 by_cases h1:chkW s ≠ 0
 ·simp only [if_pos h1]
 simp only [if_neg h1];rw [show (!frW 0) = false from rfl];rfl
theorem rwClaim_any (L:Lay) (s:Swp) (n p:Int) (w:World) (h:SwR w L s) (hf:Few s) :
  Calls Tryz.prog 33 #[swV L s,.int .i64 n,.int .i64 p] w (SwPo (claW s n p).1 [.int .i64 (claW s n p).2] w):=by
 obtain ⟨a0,c0,a1,c1,a2,c2,a3,c3,a4,c4,a5,c5,a6,c6,a7,c7⟩:=L
 have HA:=Lib.hid h
 have HFW:=Lib.hid hf
 obtain ⟨Q,hQ⟩:∃ Q,claW s n p = Q:=⟨_,rfl⟩
 rw [hQ]
 rw [claW_wnt] at hQ
 have HQ:=Lib.hid hQ
 clear hQ h hf
 unfold swV swC
 obtain ⟨X,hX⟩:∃ X,(w.alloc (.cells (zkx s a0 c0 a1 c1 a2 c2 a3 c3 a4 c4 a5 c5 a6 c6 a7 c7).toArray 35)).alloc (.cells zkz.toArray 35) = X:=⟨_,rfl⟩
 have kX:=za1 hX
 have kR:=za2 hX
 have BX:Below w.heap.size w X:=by rw [← hX];exact zbl
 obtain ⟨z,hzz⟩:∃ z,wntW s n 0 p = z:=⟨_,rfl⟩
 have HZZ:=Lib.hid hzz
 have hC:=rwWants_any ⟨a0,c0,a1,c1,a2,c2,a3,c3,a4,c4,a5,c5,a6,c6,a7,c7⟩ s n 0 p X (HA.out.ext BX) HFW.out
 rw [hzz] at hC
 have HC:=Lib.hid hC
 clear hC hzz
 have zkX:=kX.lt
 obtain ⟨q0,q1,q2,q3,q4,q5,q6,q7,q8,q9,q10⟩:=zc11 kX
 go_enter Tryz.func33,Tryz.ntmps33
 go_wp2_with fail
 (try rw [hX])
 clear hX
 refine HC.out.mono ?_
 rintro e1 w1 ⟨rfl,hb1⟩
 have B1:=zbt BX hb1
 replace kX:=kX.below_ hb1 kX.lt
 replace kR:=kR.below_ hb1 kR.lt
 clear hb1
 clear zkX q0 q1 q2 q3 q4 q5 q6 q7 q8 q9 q10
 by_cases z0:z = 0
 ·subst z0
  obtain ⟨hok,_,hak⟩:=wnt_zero HZZ.out
  have HFP:=Lib.hid (find_parts hok hak)
  clear hok hak
  obtain ⟨fi,hfi⟩:∃ fi,s.wr.findIdx? (fun v => decide (v.1 = n)) = fi:=⟨_,rfl⟩
  rw [hfi] at HFP
  have HFI:=Lib.hid hfi
  clear hfi
  have HQ2:=HQ.out
  rw [HZZ.out,if_neg (by simp),HFI.out] at HQ2
  have zkX:=kX.lt
  obtain ⟨-,-,-,x3,-⟩:=zc11 kX
  cases fi with
  | none =>
   have HE:Hid (Q = (.zero,6)):=HQ2.symm
   clear HQ2
   go_wp2_with fail
   refine (RFind_any a2 c2 s.wr n w1 (HA.out.r2.ext B1).sw HFW.out.f2 HFP.out).mono ?_
   rintro e3 w3 ⟨rfl,hb3⟩
   have B3:=zbt B1 hb3
   replace kX:=kX.below_ hb3 kX.lt
   replace kR:=kR.below_ hb3 kR.lt
   clear hb3
   clear x3 zkX
   have ztR:=kR.lt
   obtain ⟨t0,t1,t2,t3,t4,t5,t6,t7,t8,t9,t10⟩:=zc11 kR
   obtain ⟨tf0,tf1,tf2,tf3,tf4,tf5,tf6,tf7,tf8,tf9,tf10,-⟩:=zf kR
   go_wp2_with fail
   obtain ⟨W,hW⟩:∃ W,setN w3 (w.heap.size + 1) 0 zkz = W:=⟨_,rfl⟩
   have hWn:=zs11 hW
   have kW:=zsw hW kR
   have bW:=zbw hW B3 (by omega)
   rw [hWn]
   clear hWn hW t0 tf0 t1 tf1 t2 tf2 t3 tf3 t4 tf4 t5 tf5 t6 tf6 t7 tf7 t8 tf8 t9 tf9 t10 tf10
   refine bodyPost_ret (by simp [results,Tryz.results33,go_sem,zc11 kW] <;> rfl) rfl ?_
   rw [HE.out]
   exact ⟨.zero,rfl,SwO.zero,bW⟩
  | some i =>
   have hi:i < s.wr.length:=by
    have:=HFI.out
    rw [List.findIdx?_eq_some_iff_getElem] at this
    exact this.1
   have HQ3:=Lib.hid HQ2
   clear HQ2
   go_wp2_with fail
   refine (RFind_any a2 c2 s.wr n w1 (HA.out.r2.ext B1).sw HFW.out.f2 HFP.out).mono ?_
   rintro e3 w3 ⟨rfl,hb3⟩
   have B3:=zbt B1 hb3
   replace kX:=kX.below_ hb3 kX.lt
   replace kR:=kR.below_ hb3 kR.lt
   clear hb3
   clear x3 zkX
   obtain ⟨bb,off,y,hA1,hbl,hx,hc⟩:=(HA.out.r2.ext B3).at_ hi
   obtain ⟨y0,y1,y2⟩:=y
   have HX:=Lib.hid hx
   have cf:w3.cell? ⟨bb,off + i * 3 + 2,none⟩ = some (.int .i64 y2):=hc 2 _ rfl
   dsimp only at hA1
   subst hA1
   have i1:(i:Int) < s.wr.length:=by omega
   have zkX:=kX.lt
   have x3:=zc kX 3
   clear hx hc hi hbl
   by_cases y20:y2 = 0
   ·subst y20
    have HE:Hid (Q = ({ s with wr:=setC s.wr i p },0)):=by
     show _ = _
     rw [← HQ3.out]
     (try dsimp only)
     rw [List.getD_eq_getElem?_getD,HX.out,if_neg (by simp)]
    have HL:=Lib.hid (rwOwn_any ⟨a0,c0,a1,c1,(some ⟨bb,off,none⟩),c2,a3,c3,a4,c4,a5,c5,a6,c6,a7,c7⟩ s w3 (HA.out.ext B3) HFW.out)
    clear zkX x3
    have zkX:=kX.lt
    obtain ⟨q0,q1,q2,q3,q4,q5,q6,q7,q8,q9,q10⟩:=zc11 kX
    go_wp2_with fail
    refine HL.out.mono ?_
    rintro e4 w4 ⟨⟨b0,k0,b1,k1,b2,k2,b3,k3,b4,k4,b5,k5,b6,k6,b7,k7⟩,rfl,O4,hb4⟩
    have hw34:=hb4.size
    have HKR0:w.heap.size + 1 < w3.heap.size:=kR.lt
    have B4:=zbt B3 hb4
    replace kR:=kR.below_ hb4 kR.lt
    clear hb4
    clear zkX q0 q1 q2 q3 q4 q5 q6 q7 q8 q9 q10
    clear cf
    unfold swV swC
    dsimp only
    go_upto_region 10 with fail
    obtain ⟨V4,hV4⟩:∃ V,w4.alloc (.cells (zkx s b0 k0 b1 k1 b2 k2 b3 k3 b4 k4 b5 k5 b6 k6 b7 k7).toArray 35) = V:=⟨_,rfl⟩
    obtain ⟨G,hG⟩:∃ G,w4.heap.size = G:=⟨_,rfl⟩
    have kG:Blk V4 G 35 (zkx s b0 k0 b1 k1 b2 k2 b3 k3 b4 k4 b5 k5 b6 k6 b7 k7).toArray:=by rw [← hV4,← hG];exact Blk.new_ rfl rfl
    have BV4:=zab hV4
    have hgt:SgAt V4 w3.heap.size G ⟨b0,k0,b1,k1,b2,k2,b3,k3,b4,k4,b5,k5,b6,k6,b7,k7⟩ s:=⟨kG,O4.ext BV4⟩
    replace kR:=kR.below_ BV4 kR.lt
    replace B4:=B4.trans (BV4.mono B4.size)
    rw [hV4,hG]
    clear hV4 hG BV4 O4
    obtain ⟨g,hg2,hg,hgl,hgc,hgf,hput⟩:=hgt.putW HX.out
    have HPUT:=Lib.hid (hput p)
    dsimp only at hg2 hgc
    subst hg2
    clear hgt hput
    have zG:=kG.lt
    have u3:=zc kG 3
    go_upto_region 11 with fail
    obtain ⟨U5,hU5⟩:∃ U,V4.setCell ⟨g,i * 3 + 2,none⟩ (.int .i64 p) = U:=⟨_,rfl⟩
    obtain ⟨S5,hS5⟩:∃ S5,{ s with wr:=setC s.wr i p } = S5:=⟨_,rfl⟩
    have hS5b:({ s with wr:=s.wr.set i (y0,y1,p) }:Swp) = S5:=by
     rw [← hS5]
     unfold setC
     rw [List.getD_eq_getElem?_getD,HX.out]
     rfl
    have hat:SgAt U5 w3.heap.size G ⟨b0,k0,b1,k1,(some ⟨g,0,none⟩),k2,b3,k3,b4,k4,b5,k5,b6,k6,b7,k7⟩ S5:=by
     have h1:=HPUT.out
     dsimp only at h1
     rw [hU5,hS5b] at h1
     exact h1
    have kR5:Blk U5 (w.heap.size + 1) 35 zkz.toArray:=by rw [← hU5];exact kR.far_ (by show w.heap.size + 1 ≠ g;omega) _
    have B5:Below w.heap.size w U5:=by rw [← hU5];exact B4.setCell (p:=⟨g,i * 3 + 2,none⟩) (by show w.heap.size ≤ g;omega) _
    rw [hU5]
    rw [hS5] at HE
    clear hU5 hS5 hS5b HPUT u3 zG hgc hgf kG kR
    have kR:=kR5
    have kG:Blk U5 G 35 (zkx S5 b0 k0 b1 k1 (some ⟨g,0,none⟩) k2 b3 k3 b4 k4 b5 k5 b6 k6 b7 k7).toArray:=hat.blk
    have HO5:=Lib.hid hat.own
    clear hat kR5
    have zR:=kR.lt
    have zG:=kG.lt
    obtain ⟨u0,u1,u2,u3,u4,u5,u6,u7,u8,u9,u10⟩:=zc11 kG
    obtain ⟨t0,t1,t2,t3,t4,t5,t6,t7,t8,t9,t10⟩:=zc11 kR
    obtain ⟨tf0,tf1,tf2,tf3,tf4,tf5,tf6,tf7,tf8,tf9,tf10,-⟩:=zf kR
    go_wp2_with fail
    obtain ⟨W,hW⟩:∃ W,setN U5 (w.heap.size + 1) 0 (zkx S5 b0 k0 b1 k1 (some ⟨g,0,none⟩) k2 b3 k3 b4 k4 b5 k5 b6 k6 b7 k7) = W:=⟨_,rfl⟩
    have hWn:=zs11 hW
    have kW:=zsw hW kR
    have bW:=zbw hW B5 (by omega)
    have OW:SwO W w3.heap.size ⟨b0,k0,b1,k1,(some ⟨g,0,none⟩),k2,b3,k3,b4,k4,b5,k5,b6,k6,b7,k7⟩ S5:=by rw [← hW];exact HO5.out.farO kR _
    rw [hWn]
    clear hWn hW t0 tf0 t1 tf1 t2 tf2 t3 tf3 t4 tf4 t5 tf5 t6 tf6 t7 tf7 t8 tf8 t9 tf9 t10 tf10
    refine bodyPost_ret (by simp [results,Tryz.results33,go_sem,zc11 kW] <;> rfl) rfl ?_
    rw [HE.out]
    exact ⟨⟨b0,k0,b1,k1,(some ⟨g,0,none⟩),k2,b3,k3,b4,k4,b5,k5,b6,k6,b7,k7⟩,rfl,OW.base_ (Nat.zero_le _),bW⟩
   ·have HE:Hid (Q = (.zero,10)):=by
     show _ = _
     rw [← HQ3.out]
     (try dsimp only)
     rw [List.getD_eq_getElem?_getD,HX.out,if_pos (by simpa using y20)]
    have yb:(y2 != 0) = true:=by simpa using y20
    clear y20
    have ztR:=kR.lt
    obtain ⟨t0,t1,t2,t3,t4,t5,t6,t7,t8,t9,t10⟩:=zc11 kR
    obtain ⟨tf0,tf1,tf2,tf3,tf4,tf5,tf6,tf7,tf8,tf9,tf10,-⟩:=zf kR
    go_wp2_with fail
    obtain ⟨W,hW⟩:∃ W,setN w3 (w.heap.size + 1) 0 zkz = W:=⟨_,rfl⟩
    have hWn:=zs11 hW
    have kW:=zsw hW kR
    have bW:=zbw hW B3 (by omega)
    rw [hWn]
    clear hWn hW t0 tf0 t1 tf1 t2 tf2 t3 tf3 t4 tf4 t5 tf5 t6 tf6 t7 tf7 t8 tf8 t9 tf9 t10 tf10
    refine bodyPost_ret (by simp [results,Tryz.results33,go_sem,zc11 kW] <;> rfl) rfl ?_
    rw [HE.out]
    exact ⟨.zero,rfl,SwO.zero,bW⟩
 ·have HE:Hid (Q = (.zero,z)):=by show _ = _;rw [← HQ.out,HZZ.out,if_pos z0]
  have zb:(z != 0) = true:=by simpa using z0
  clear z0
  have ztR:=kR.lt
  obtain ⟨t0,t1,t2,t3,t4,t5,t6,t7,t8,t9,t10⟩:=zc11 kR
  obtain ⟨tf0,tf1,tf2,tf3,tf4,tf5,tf6,tf7,tf8,tf9,tf10,-⟩:=zf kR
  go_wp2_with fail
  obtain ⟨W,hW⟩:∃ W,setN w1 (w.heap.size + 1) 0 zkz = W:=⟨_,rfl⟩
  have hWn:=zs11 hW
  have kW:=zsw hW kR
  have bW:=zbw hW B1 (by omega)
  rw [hWn]
  clear hWn hW t0 tf0 t1 tf1 t2 tf2 t3 tf3 t4 tf4 t5 tf5 t6 tf6 t7 tf7 t8 tf8 t9 tf9 t10 tf10
  refine bodyPost_ret (by simp [results,Tryz.results33,go_sem,zc11 kW] <;> rfl) rfl ?_
  rw [HE.out]
  exact ⟨.zero,rfl,SwO.zero,bW⟩
end Go.Proofs.YthijbipidbjpfaaGreatDoor
