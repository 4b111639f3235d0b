import Derived.Test.YthijbipidbjpfaaGreatDoorZW24
import Derived.Test.YthijbipidbjpfaaGreatDoorZW25
import Derived.Test.YthijbipidbjpfaaGreatDoorZW19
import Derived.Test.YthijbipidbjpfaaGreatDoorZW00
import Derived.Test.YthijbipidbjpfaaGreatDoorZW03
import Derived.Test.YthijbipidbjpfaaGreatDoorZW13
import Derived.Test.YthijbipidbjpfaaGreatDoorZW20
import Derived.Test.YthijbipidbjpfaaGreatDoorZW21
import Derived.Test.YthijbipidbjpfaaGreatDoorZW06
import Derived.ProofKit
import Derived.OpenShut
import Derived.Lib.SmallJoins
import Derived.Test.YthijbipidbjpfaaGreatDoorTie
import Derived.Test.YthijbipidbjpfaaGreatDoorCards
import Derived.Test.YthijbipidbjpfaaGreatDoorZW07
import Derived.LaidMore
import Derived.Stop.Joined
import Derived.ChangeSame
import Derived.Deep.Slices
import Derived.Deep.SlicePairs
set_option linter.unusedSimpArgs false
set_option linter.unusedVariables false
set_option maxRecDepth 100000
set_option maxHeartbeats 8000000
namespace Go.Proofs.YthijbipidbjpfaaGreatDoor
open Go.RowKit Go.Maps
theorem SwO.farO {w : World} {base b o : Nat} {L : Lay} {s : Swp} {cs : Array Value} (h : SwO w base L s) (hb : Blk w b 35 cs) (vs : List Value) : SwO (setN w b o vs) base L s :=
 ⟨h.o0.farBN vs hb (by decide), h.o1.farBN vs hb (by decide), h.o2.lift fun o => o.farBN vs hb (by decide), h.o3.farBN vs hb (by decide), h.o4.farBN vs hb (by decide), h.o5.farBN vs hb (by decide), h.o6.farBN vs hb (by decide), h.o7.farBN vs hb (by decide), h.p0, h.p7⟩
theorem rwFrame_b (x : Int) (b : Bool) (h : decide (0 ≤ x ∧ x < 256) = b) (w : World) : Calls Tryz.prog 52 #[.int .i64 x] w fun e w' => e = .returned (.bool b) ∧ w = w' := by
 have HE : Hid (b = (decide (x ≥ 0) && decide (x < 256))) := by show _ = _; rw [← h]; simp
 clear h
 cases d1 : decide (x ≥ 0) with
 | true =>
  go_enter Tryz.func52, Tryz.ntmps52
  go_wp2_with fail
  go_ret
  exact ⟨by rw [HE.out, d1]; simp, rfl⟩
 | false =>
  go_enter Tryz.func52, Tryz.ntmps52
  go_wp2_with fail
  go_ret
  exact ⟨by rw [HE.out, d1]; simp, rfl⟩
theorem rwDescribe_any (L : Lay) (s : Swp) (base : Nat) (w : World) (h : SwO w base L s) (hbw : base ≤ w.heap.size) (hok : OkP s.po) {d : Int} {l : List Int} (hfr : s.po.free = d :: l) (hdl : s.desc.length ≤ 1000) :
  Calls Tryz.prog 58 #[swV L s] w fun e w' => ∃ L', e = .returned (swV L' (describeW s)) ∧ SwO w' base L' (describeW s) ∧ Below base w w' := by
 obtain ⟨a0, c0, a1, c1, a2, c2, a3, c3, a4, c4, a5, c5, a6, c6, a7, c7⟩ := L
 have HT := Lib.hid (tkP_ok hok hfr).1
 have hTK := fun W h => rpTake_any a7 c7 s.po W h hok hfr
 have HTK := Lib.hid hTK
 have HO0 := Lib.hid h
 have HE : Hid (describeW s = { s with po := ⟨s.po.size, l⟩, desc := s.desc ++ [d] }) := by show _ = _; unfold describeW; rw [HT.out]
 clear h hok hfr hTK
 unfold swV swC
 obtain ⟨X, hX⟩ : ∃ X, (w.alloc (.cells (zkx s a0 c0 a1 c1 a2 c2 a3 c3 a4 c4 a5 c5 a6 c6 a7 c7).toArray 35)).alloc (.cells zkz.toArray 35) = X := ⟨_, rfl⟩
 have kX := za1 hX
 have kR := za2 hX
 have BX : Below w.heap.size w X := by rw [← hX]; exact zbl
 have OX := HO0.out.ext BX
 have zX := kX.lt
 have zR := kR.lt
 have hbX : base ≤ X.heap.size := by omega
 obtain ⟨-, -, -, -, -, -, -, -, -, q9, q10⟩ := zc11 kX
 go_enter Tryz.func58, Tryz.ntmps58
 go_wp2_with fail
 (try rw [hX])
 clear hX
 refine (HTK.out X OX.o7.cr).mono ?_
 rintro e1 w1 ⟨A, c, rfl, ho, hb1⟩
 dsimp only at ho
 unfold poV
 dsimp only
 have kX1 := kX.below_ hb1 zX
 have kR1 := kR.below_ hb1 zR
 have zX1 := kX1.lt
 have zR1 := kR1.lt
 have h1s := hb1.size
 have M1 : SwO w1 base ⟨a0, c0, a1, c1, a2, c2, a3, c3, a4, c4, a5, c5, a6, c6, A, c⟩ { s with po := ⟨s.po.size, l⟩ } :=
  have x := OX.ext hb1
  ⟨x.o0, x.o1, x.o2, x.o3, x.o4, x.o5, x.o6, ho.base_ hbX, x.p0, (OX.o4.part ho (Nat.le_refl _)).symm⟩
 clear q9 q10 ho
 obtain ⟨-, -, -, -, -, -, -, -, -, q9, q10⟩ := zc11 kX1
 obtain ⟨-, -, -, -, -, -, -, -, -, qf9, qf10, -⟩ := zf kX1
 go_upto_region 3 with fail
 obtain ⟨W1, hW1⟩ : ∃ W1, setN w1 w.heap.size 9 [.int .i64 s.po.size, .slice A l.length c] = W1 := ⟨_, rfl⟩
 have hW1n : World.setCell (World.setCell w1 ⟨w.heap.size, 9, none⟩ (.int .i64 s.po.size)) ⟨w.heap.size, 10, none⟩ (.slice A l.length c) = W1 := hW1
 have kB1 : Blk W1 w.heap.size 35 #[.int .i64 s.cap, .slice a0 s.sl.refs.length c0, .slice a1 s.sl.busy.length c1, .slice a2 s.wr.length c2, .slice a3 s.rd.length c3, .slice a4 s.desc.length c4, .slice a5 s.dk.cells.length c5, .slice a6 s.dk.jobs.length c6, .int .i64 s.dk.room, .int .i64 s.po.size, .slice A l.length c] := by rw [← hW1]; exact (kX1.set_ 9 _).set_ 10 _
 have kR1' : Blk W1 (w.heap.size + 1) 35 zkz.toArray := by rw [← hW1]; exact kR1.kept (grown_setN _ _ _ _) (by simp)
 have M1' : SwO W1 base ⟨a0, c0, a1, c1, a2, c2, a3, c3, a4, c4, a5, c5, a6, c6, A, c⟩ { s with po := ⟨s.po.size, l⟩ } := by rw [← hW1]; exact M1.farO kX1 _
 have B1 : Below base w W1 := by rw [← hW1]; exact below_setN ((BX.mono hbw).trans (hb1.mono hbX)) hbw _
 obtain ⟨W2, hW2⟩ : ∃ W2, W1.alloc (.cells #[.int .i64 s.po.size, .slice A l.length c] 33) = W2 := ⟨_, rfl⟩
 have BA1 := zab hW2
 have zW1 := kR1'.lt
 have kB2 := kB1.below_ BA1 kB1.lt
 have kR2 := kR1'.below_ BA1 zW1
 have M2 := M1'.ext BA1
 have B2 : Below base w W2 := B1.trans (BA1.mono (by omega))
 rw [hW1n, hW2]
 clear hW1n hW1 hW2 q9 q10 qf9 qf10 M1 M1' B1 kX1 kR1 kB1 kR1' zW1 hb1 BA1
 have zB2 := kB2.lt
 have zR2 := kR2.lt
 have hb2 : base ≤ W2.heap.size := by omega
 obtain ⟨-, -, -, -, -, q5, -⟩ := zc11 kB2
 have qf5 := kB2.frozen_ 5
 have BA : Below W2.heap.size W2 (W2.alloc (.cells #[.int .i64 d] 3)) := (Below.refl _ _).alloc (Nat.le_refl _) _
 have M3 := M2.ext BA
 have kB3 := kB2.below_ BA zB2
 have kR3 := kR2.below_ BA zR2
 have HM3 := Lib.hid M3
 have HKB3 := Lib.hid kB3
 have HNN := Lib.hid (M3.o4.notT kB3 (by decide))
 have HKR3 := Lib.hid kR3
 have HNR := Lib.hid (M3.o4.notT kR3 (by decide))
 clear M3 kB3 kR3
 go_upto_region 4 with (at_builtin; refine wpList_appE2 intE rfl (.tmp 16) (.tmp 18) _ rfl rfl _ base (Nat.le_trans hb2 BA.size) a4 c4 s.desc.length s.desc rfl HM3.out.o4 (some ⟨W2.heap.size, 0, none⟩) 1 1 [d] rfl (SR.of_blk (E := intE) (l := [d]) (t := 3) (Blk.new_ rfl rfl)) (Nat.zero_lt_one) (by show s.desc.length + 1 ≤ 10000; omega) rfl rfl ?_; rw [show (s.desc ++ [d]).length = s.desc.length + 1 from by simp]; intro A5 cc5 w5 hO5 hb5 hk5 hn5; have kB5 := hk5.blk HKB3.out HNN.out; have zB5 := kB5.lt; have qq5 : w5.cell? ⟨w.heap.size, 5, none⟩ = some (.slice a4 s.desc.length c4) := (by simpa using kB5.cell_ 5); have qqf5 := kB5.frozen_ 5)
 have kR5 := hk5.blk HKR3.out HNR.out
 have M5 := HM3.out.keptD hk5
 have p05 := HM3.out.p0.near (c2 := cc5) HM3.out.o0 hn5
 have p75 := HM3.out.p7.near (c2 := cc5) HM3.out.o7 hn5
 have B5 : Below base w w5 := (B2.trans (BA.mono hb2)).trans hb5
 have M5' : SwO w5 base ⟨a0, c0, a1, c1, a2, c2, a3, c3, A5, cc5, a5, c5, a6, c6, A, c⟩ (describeW s) := by
  rw [HE.out]
  exact ⟨M5.o0, M5.o1, M5.o2, M5.o3, hO5, M5.o5, M5.o6, M5.o7, p05, p75⟩
 obtain ⟨W6, hW6⟩ : ∃ W6, w5.setCell ⟨w.heap.size, 5, none⟩ (.slice A5 (s.desc.length + 1) cc5) = W6 := ⟨_, rfl⟩
 have M6 : SwO W6 base ⟨a0, c0, a1, c1, a2, c2, a3, c3, A5, cc5, a5, c5, a6, c6, A, c⟩ (describeW s) := by rw [← hW6]; exact M5'.farO kB5 [.slice A5 (s.desc.length + 1) cc5]
 have kB6 : Blk W6 w.heap.size 35 #[.int .i64 s.cap, .slice a0 s.sl.refs.length c0, .slice a1 s.sl.busy.length c1, .slice a2 s.wr.length c2, .slice a3 s.rd.length c3, .slice A5 (s.desc.length + 1) cc5, .slice a5 s.dk.cells.length c5, .slice a6 s.dk.jobs.length c6, .int .i64 s.dk.room, .int .i64 s.po.size, .slice A l.length c] := by rw [← hW6]; exact kB5.set_ 5 _
 have kR6 : Blk W6 (w.heap.size + 1) 35 zkz.toArray := by rw [← hW6]; exact kR5.far_ (by simp) _
 have B6 : Below base w W6 := by rw [← hW6]; exact B5.setCell (p := ⟨w.heap.size, 5, none⟩) hbw _
 rw [hW6]
 clear hW6 M5 M5' hk5 hn5 hO5 hb5 qq5 qqf5 kB5 kR5
 have zB6 := kB6.lt
 have zR6 := kR6.lt
 have HM6 := Lib.hid M6
 obtain ⟨y0, y1, y2, y3, y4, y5, y6, y7, y8, y9, y10⟩ := zc11 kB6
 obtain ⟨t0, t1, t2, t3, t4, t5, t6, t7, t8, t9, t10⟩ := zc11 kR6
 obtain ⟨tf0, tf1, tf2, tf3, tf4, tf5, tf6, tf7, tf8, tf9, tf10, -⟩ := zf kR6
 clear M6
 go_wp2_with fail
 obtain ⟨W, hW⟩ : ∃ W, setN W6 (w.heap.size + 1) 0 [.int .i64 s.cap, .slice a0 s.sl.refs.length c0, .slice a1 s.sl.busy.length c1, .slice a2 s.wr.length c2, .slice a3 s.rd.length c3, .slice A5 (s.desc.length + 1) cc5, .slice a5 s.dk.cells.length c5, .slice a6 s.dk.jobs.length c6, .int .i64 s.dk.room, .int .i64 s.po.size, .slice A l.length c] = W := ⟨_, rfl⟩
 have hWn := zs11 hW
 have kW := zsw hW kR6
 have bW := zbw hW B6 (by omega)
 have MW : SwO W base ⟨a0, c0, a1, c1, a2, c2, a3, c3, A5, cc5, a5, c5, a6, c6, A, c⟩ (describeW s) := by rw [← hW]; exact HM6.out.farO kR6 _
 rw [hWn]
 clear hWn hW t0 tf0 y0 t1 tf1 y1 t2 tf2 y2 t3 tf3 y3 t4 tf4 y4 t5 tf5 y5 t6 tf6 y6 t7 tf7 y7 t8 tf8 y8 t9 tf9 y9 t10 tf10 y10
 refine bodyPost_ret (by simp [results, Tryz.results58, go_sem, zc11 kW] <;> rfl) rfl ?_
 refine ⟨⟨a0, c0, a1, c1, a2, c2, a3, c3, A5, cc5, a5, c5, a6, c6, A, c⟩, ?_, MW, bW⟩
 rw [HE.out]
 simp [swV, swC]
def SwPr (R : Swp) (z : List Value) (w : World) (e : Ending) (w' : World) : Prop := ∃ L, e = .returned (.tuple (swV L R :: z).toArray) ∧ SwR w' L R ∧ Below w.heap.size w w'
theorem rwWriteOut_any (L : Lay) (s : Swp) (f r : Int) (x : Ct) (w : World) (h : SwR w L s) (hf : Few s) :
  Calls Tryz.prog 17 #[swV L s, .int .i64 f, .int .i64 r, ctV x] w (SwPr (wrtW s f r x).1 [.int .i64 (wrtW s f r x).2.1, .int .i64 (wrtW s f r x).2.2] w) := by
 obtain ⟨a0, c0, a1, c1, a2, c2, a3, c3, a4, c4, a5, c5, a6, c6, a7, c7⟩ := L
 have HA := Lib.hid h
 have HFW := Lib.hid hf
 obtain ⟨Q, hQ⟩ : ∃ Q, wrtW s f r x = Q := ⟨_, rfl⟩
 rw [hQ]
 have HQ := Lib.hid hQ
 clear hQ h hf
 unfold swV swC ctV ctC
 obtain ⟨X, hX⟩ : ∃ X, ((w.alloc (.cells (zkx s a0 c0 a1 c1 a2 c2 a3 c3 a4 c4 a5 c5 a6 c6 a7 c7).toArray 35)).alloc (.cells (zkk x.c0 x.c1 x.c2 x.c3 x.c4 x.c5 x.c6 x.c7).toArray 38)).alloc (.cells zkz.toArray 35) = X := ⟨_, rfl⟩
 have kX : Blk X w.heap.size 35 (zkx s a0 c0 a1 c1 a2 c2 a3 c3 a4 c4 a5 c5 a6 c6 a7 c7).toArray := by rw [← hX]; exact ((Blk.new_ rfl rfl).alloc_ _).alloc_ _
 have kC : Blk X (w.heap.size + 1) 38 (zkk x.c0 x.c1 x.c2 x.c3 x.c4 x.c5 x.c6 x.c7).toArray := by rw [← hX]; exact (Blk.new_ (by simp) rfl : Blk _ (w.heap.size + 1) _ _).alloc_ _
 have kR : Blk X (w.heap.size + 2) 35 zkz.toArray := by rw [← hX]; exact Blk.new_ (by simp) rfl
 have BX : Below w.heap.size w X := by rw [← hX]; exact zbl
 obtain ⟨z, hzz⟩ : ∃ z, chkW s = z := ⟨_, rfl⟩
 have HZZ := Lib.hid hzz
 have hC := rwCheck_any ⟨a0, c0, a1, c1, a2, c2, a3, c3, a4, c4, a5, c5, a6, c6, a7, c7⟩ s X (HA.out.ext BX) HFW.out
 rw [hzz] at hC
 have HC := Lib.hid hC
 clear hC hzz
 have zkX := kX.lt
 obtain ⟨q0, q1, q2, q3, q4, q5, q6, q7, q8, q9, q10⟩ := zc11 kX
 go_enter Tryz.func17, Tryz.ntmps17
 go_wp2_with fail
 (try rw [hX])
 clear hX
 refine HC.out.mono ?_
 rintro e1 w1 ⟨rfl, hb1⟩
 have B1 := zbt BX hb1
 replace kX := kX.below_ hb1 kX.lt
 replace kC := kC.below_ hb1 kC.lt
 replace kR := kR.below_ hb1 kR.lt
 clear hb1
 clear zkX q0 q1 q2 q3 q4 q5 q6 q7 q8 q9 q10
 by_cases z0 : z = 0
 ·subst z0
  have HOK : Hid (OkS s) := chkW_ok.1 HZZ.out
  cases d1 : decide (0 ≤ f ∧ f < 256) with
  | false =>
   have HE : Hid (Q = (.zero, 0, 2)) := by show _ = _; rw [← HQ.out]; unfold wrtW frW; rw [HZZ.out, if_neg (by simp), d1]; rfl
   have ztR := kR.lt
   obtain ⟨t0, t1, t2, t3, t4, t5, t6, t7, t8, t9, t10⟩ := zc11 kR
   obtain ⟨tf0, tf1, tf2, tf3, tf4, tf5, tf6, tf7, tf8, tf9, tf10, -⟩ := zf kR
   go_wp2_with (go_at_call 52; refine (rwFrame_b _ _ d1 _).mono ?_; rintro e w' ⟨rfl, rfl⟩)
   obtain ⟨W, hW⟩ : ∃ W, setN w1 (w.heap.size + 2) 0 zkz = W := ⟨_, rfl⟩
   have hWn := zs11 hW
   have kW := zsw hW kR
   have bW := zbw hW B1 (by omega)
   rw [hWn]
   clear hWn hW t0 tf0 t1 tf1 t2 tf2 t3 tf3 t4 tf4 t5 tf5 t6 tf6 t7 tf7 t8 tf8 t9 tf9 t10 tf10
   refine bodyPost_ret (by simp [results, Tryz.results17, go_sem, zc11 kW] <;> rfl) rfl ?_
   rw [HE.out]
   exact ⟨.zero, rfl, (SwO.zero (base := 0)).sw, bW⟩
  | true =>
   have HD1 : Hid (frW f = true) := d1
   by_cases r0 : r < 1
   ·have HE : Hid (Q = (.zero, 0, 15)) := by show _ = _; rw [← HQ.out]; unfold wrtW; rw [HZZ.out, if_neg (by simp), HD1.out, if_neg (by simp), if_pos (.inl r0)]
    have r0b : decide (r < 1) = true := by simpa using r0
    clear r0
    have ztR := kR.lt
    obtain ⟨t0, t1, t2, t3, t4, t5, t6, t7, t8, t9, t10⟩ := zc11 kR
    obtain ⟨tf0, tf1, tf2, tf3, tf4, tf5, tf6, tf7, tf8, tf9, tf10, -⟩ := zf kR
    go_wp2_with (go_at_call 52; refine (rwFrame_b _ _ d1 _).mono ?_; rintro e w' ⟨rfl, rfl⟩)
    obtain ⟨W, hW⟩ : ∃ W, setN w1 (w.heap.size + 2) 0 zkz = W := ⟨_, rfl⟩
    have hWn := zs11 hW
    have kW := zsw hW kR
    have bW := zbw hW B1 (by omega)
    rw [hWn]
    clear hWn hW t0 tf0 t1 tf1 t2 tf2 t3 tf3 t4 tf4 t5 tf5 t6 tf6 t7 tf7 t8 tf8 t9 tf9 t10 tf10
    refine bodyPost_ret (by simp [results, Tryz.results17, go_sem, zc11 kW] <;> rfl) rfl ?_
    rw [HE.out]
    exact ⟨.zero, rfl, (SwO.zero (base := 0)).sw, bW⟩
   ·have r0b : decide (r < 1) = false := by simpa using r0
    by_cases r1 : 512 < r
    ·have HE : Hid (Q = (.zero, 0, 15)) := by show _ = _; rw [← HQ.out]; unfold wrtW; rw [HZZ.out, if_neg (by simp), HD1.out, if_neg (by simp), if_pos (.inr r1)]
     have r1b : decide (r > 512) = true := by simpa using r1
     clear r0 r1
     have ztR := kR.lt
     obtain ⟨t0, t1, t2, t3, t4, t5, t6, t7, t8, t9, t10⟩ := zc11 kR
     obtain ⟨tf0, tf1, tf2, tf3, tf4, tf5, tf6, tf7, tf8, tf9, tf10, -⟩ := zf kR
     go_wp2_with (go_at_call 52; refine (rwFrame_b _ _ d1 _).mono ?_; rintro e w' ⟨rfl, rfl⟩)
     obtain ⟨W, hW⟩ : ∃ W, setN w1 (w.heap.size + 2) 0 zkz = W := ⟨_, rfl⟩
     have hWn := zs11 hW
     have kW := zsw hW kR
     have bW := zbw hW B1 (by omega)
     rw [hWn]
     clear hWn hW t0 tf0 t1 tf1 t2 tf2 t3 tf3 t4 tf4 t5 tf5 t6 tf6 t7 tf7 t8 tf8 t9 tf9 t10 tf10
     refine bodyPost_ret (by simp [results, Tryz.results17, go_sem, zc11 kW] <;> rfl) rfl ?_
     rw [HE.out]
     exact ⟨.zero, rfl, (SwO.zero (base := 0)).sw, bW⟩
    ·have r1b : decide (r > 512) = false := by simpa using r1
     have HR : Hid (1 ≤ r ∧ r ≤ 512) := ⟨by omega, by omega⟩
     have HR2 : Hid (¬ (r < 1 ∨ 512 < r)) := fun h => h.elim r0 r1
     clear r0 r1
     obtain ⟨us, hus⟩ : ∃ b, usW s f = b := ⟨_, rfl⟩
     have HUS := Lib.hid hus
     have hF := rwWorking_any ⟨a0, c0, a1, c1, a2, c2, a3, c3, a4, c4, a5, c5, a6, c6, a7, c7⟩ s f w1 (HA.out.ext B1).r6 HFW.out.f6
     rw [hus] at hF
     have HF := Lib.hid hF
     clear hF hus
     have zkX := kX.lt
     obtain ⟨q0, q1, q2, q3, q4, q5, q6, q7, q8, q9, q10⟩ := zc11 kX
     go_wp2_with (go_at_call 52; refine (rwFrame_b _ _ d1 _).mono ?_; rintro e w' ⟨rfl, rfl⟩)
     refine HF.out.mono ?_
     rintro e2 w2 ⟨rfl, hb2⟩
     have B2 := zbt B1 hb2
     replace kX := kX.below_ hb2 kX.lt
     replace kC := kC.below_ hb2 kC.lt
     replace kR := kR.below_ hb2 kR.lt
     clear hb2
     clear zkX q0 q1 q2 q3 q4 q5 q6 q7 q8 q9 q10
     cases us with
     | true =>
      have HE : Hid (Q = (.zero, 0, 10)) := by show _ = _; rw [← HQ.out]; unfold wrtW; rw [HZZ.out, if_neg (by simp), HD1.out, if_neg (by simp), if_neg HR2.out, HUS.out, if_pos rfl]
      have ztR := kR.lt
      obtain ⟨t0, t1, t2, t3, t4, t5, t6, t7, t8, t9, t10⟩ := zc11 kR
      obtain ⟨tf0, tf1, tf2, tf3, tf4, tf5, tf6, tf7, tf8, tf9, tf10, -⟩ := zf kR
      go_wp2_with fail
      obtain ⟨W, hW⟩ : ∃ W, setN w2 (w.heap.size + 2) 0 zkz = W := ⟨_, rfl⟩
      have hWn := zs11 hW
      have kW := zsw hW kR
      have bW := zbw hW B2 (by omega)
      rw [hWn]
      clear hWn hW t0 tf0 t1 tf1 t2 tf2 t3 tf3 t4 tf4 t5 tf5 t6 tf6 t7 tf7 t8 tf8 t9 tf9 t10 tf10
      refine bodyPost_ret (by simp [results, Tryz.results17, go_sem, zc11 kW] <;> rfl) rfl ?_
      rw [HE.out]
      exact ⟨.zero, rfl, (SwO.zero (base := 0)).sw, bW⟩
     | false =>
      obtain ⟨hl, hhl⟩ : ∃ l, hinW s = l := ⟨_, rfl⟩
      have HHL := Lib.hid hhl
      have hH := rwHinders_any ⟨a0, c0, a1, c1, a2, c2, a3, c3, a4, c4, a5, c5, a6, c6, a7, c7⟩ s w2 (HA.out.ext B2) HOK.out
      rw [hhl] at hH
      have HH := Lib.hid hH
      clear hH hhl
      have zkX := kX.lt
      obtain ⟨q0, q1, q2, q3, q4, q5, q6, q7, q8, q9, q10⟩ := zc11 kX
      go_wp2_with fail
      refine HH.out.mono ?_
      rintro e3 w3 ⟨hA, hc, rfl, _, hb3⟩
      have B3 := zbt B2 hb3
      replace kX := kX.below_ hb3 kX.lt
      replace kC := kC.below_ hb3 kC.lt
      replace kR := kR.below_ hb3 kR.lt
      clear hb3
      clear zkX q0 q1 q2 q3 q4 q5 q6 q7 q8 q9 q10
      by_cases hn : hl = []
      ·subst hn
       obtain ⟨i, d, l, hi, _, _, hfs, hfr, p1, p2, p3, p4, p5⟩ := wrt_parts HOK.out x HD1.out HR.out HUS.out HHL.out
       obtain ⟨T, hT⟩ : ∃ T, witT s.sl i r true = T := ⟨_, rfl⟩
       obtain ⟨D, hD⟩ : ∃ D, (⟨s.dk.cells, s.dk.jobs ++ [⟨true, i, f, x⟩], s.dk.room⟩ : Dsk) = D := ⟨_, rfl⟩
       obtain ⟨S7, hS7⟩ : ∃ S7, describeW { s with sl := T, wr := s.wr ++ [((i : Int), f, 0)], dk := D } = S7 := ⟨_, rfl⟩
       have HS7 := Lib.hid hS7
       have HE : Hid (Q = (S7, (i : Int), 0)) := by
        show _ = _
        rw [← HQ.out, ← hS7]
        unfold wrtW
        rw [HZZ.out, if_neg (by simp), HD1.out, if_neg (by simp), if_neg HR2.out, HUS.out, if_neg (by simp), HHL.out, if_neg (by simp)]
        simp only [p1, p2, hT, hD]
       have hAL := fun A B c d W h1 h2 => rsAlloc_any A B c d s.sl r W h1 h2 HOK.out.sl HR.out hfs
       rw [hT] at hAL
       have HAL := Lib.hid hAL
       have HAD := Lib.hid (fun A c W h => rhAdd_any A c s.wr i f W h (by have := HFW.out.f2; omega) p3)
       have hWR := fun A B c d W h1 h2 => rdWrite_any A B c d s.dk i f x W h1 h2 HFW.out.f5 HFW.out.f6 (by rw [p2])
       rw [p2, hD] at hWR
       have HWR := Lib.hid hWR
       have HOP := Lib.hid HOK.out.po
       have HFR := Lib.hid hfr
       have HDL := Lib.hid HFW.out.f4
       clear p1 p2 p3 p4 p5 hfr hi hfs hT hD hS7 hAL hWR
       have HL := Lib.hid (rwOwn_any ⟨a0, c0, a1, c1, a2, c2, a3, c3, a4, c4, a5, c5, a6, c6, a7, c7⟩ s w3 (HA.out.ext B3) HFW.out)
       have zkX := kX.lt
       obtain ⟨q0, q1, q2, q3, q4, q5, q6, q7, q8, q9, q10⟩ := zc11 kX
       go_wp2_with fail
       refine HL.out.mono ?_
       rintro e4 w4 ⟨⟨b0, k0, b1, k1, b2, k2, b3, k3, b4, k4, b5, k5, b6, k6, b7, k7⟩, rfl, O4, hb4⟩
       have hw34 := hb4.size
       have HKR : w.heap.size + 2 < w3.heap.size := kR.lt
       have B4 := zbt B3 hb4
       replace kC := kC.below_ hb4 kC.lt
       replace kR := kR.below_ hb4 kR.lt
       clear hb4
       clear zkX q0 q1 q2 q3 q4 q5 q6 q7 q8 q9 q10
       unfold swV swC
       dsimp only
       go_upto_region 14 with fail
       obtain ⟨V4, hV4⟩ : ∃ V, w4.alloc (.cells (zkx s b0 k0 b1 k1 b2 k2 b3 k3 b4 k4 b5 k5 b6 k6 b7 k7).toArray 35) = V := ⟨_, rfl⟩
       obtain ⟨G, hG⟩ : ∃ G, w4.heap.size = G := ⟨_, rfl⟩
       have kG : Blk V4 G 35 (zkx s b0 k0 b1 k1 b2 k2 b3 k3 b4 k4 b5 k5 b6 k6 b7 k7).toArray := by rw [← hV4, ← hG]; exact Blk.new_ rfl rfl
       have BV4 := zab hV4
       have O4V := O4.ext BV4
       replace kC := kC.below_ BV4 kC.lt
       replace kR := kR.below_ BV4 kR.lt
       replace B4 := B4.trans (BV4.mono B4.size)
       have hV4s : w3.heap.size ≤ V4.heap.size := by have := BV4.size; omega
       have hwG : w.heap.size ≤ G := by omega
       have hGw : w3.heap.size ≤ G := by omega
       rw [hV4, hG]
       clear hV4 hG BV4 O4
       have zG := kG.lt
       obtain ⟨-, u1, u2, -⟩ := zc11 kG
       go_wp2_with fail
       refine (HAL.out b0 b1 k0 k1 V4 O4V.o0.sr O4V.o1.sr).mono ?_
       rintro e5 w5 ⟨A, c, B1, d1, rfl, oI, oB, hb5⟩
       unfold stV
       dsimp only
       clear u1 u2
       have kG5 := kG.below_ hb5 zG
       have zG5 := kG5.lt
       replace kC := kC.below_ hb5 kC.lt
       replace kR := kR.below_ hb5 kR.lt
       obtain ⟨-, u1, u2, -⟩ := zc11 kG5
       obtain ⟨-, uf1, uf2, -⟩ := zf kG5
       go_upto_region 15 with fail
       obtain ⟨U5, hU5⟩ : ∃ U, setN w5 G 1 [.slice A T.refs.length c, .slice B1 T.busy.length d1] = U := ⟨_, rfl⟩
       have hU5n : World.setCell (World.setCell w5 ⟨G, 1, none⟩ (.slice A T.refs.length c)) ⟨G, 2, none⟩ (.slice B1 T.busy.length d1) = U5 := hU5
       have kG_ : Blk U5 G 35 #[.int .i64 s.cap, .slice A T.refs.length c, .slice B1 T.busy.length d1, .slice b2 s.wr.length k2, .slice b3 s.rd.length k3, .slice b4 s.desc.length k4, .slice b5 s.dk.cells.length k5, .slice b6 s.dk.jobs.length k6, .int .i64 s.dk.room, .int .i64 s.po.size, .slice b7 s.po.free.length k7] := by rw [← hU5]; exact (Blk.set_ (Blk.set_ kG5 1 _) 2 _)
       replace kC := (show Blk U5 _ _ _ from by rw [← hU5]; exact kC.kept (grown_setN _ _ _ _) (by simp; omega))
       replace kR := (show Blk U5 _ _ _ from by rw [← hU5]; exact kR.kept (grown_setN _ _ _ _) (by simp; omega))
       have O5 : SwO U5 w3.heap.size ⟨A, c, B1, d1, b2, k2, b3, k3, b4, k4, b5, k5, b6, k6, b7, k7⟩ { s with sl := T } := by
        rw [← hU5]
        have x := O4V.ext hb5
        exact SwO.farO (L := ⟨A, c, B1, d1, b2, k2, b3, k3, b4, k4, b5, k5, b6, k6, b7, k7⟩) (s := { s with sl := T }) ⟨oI.base_ hV4s, oB.base_ hV4s, x.o2, x.o3, x.o4, x.o5, x.o6, x.o7, (O4V.o4.part oI (Nat.le_refl _)).symm, x.p7⟩ kG5 _
       have B5 : Below w.heap.size w U5 := by rw [← hU5]; exact below_setN (B4.trans (hb5.mono B4.size)) hwG _
       have s5 : V4.heap.size ≤ U5.heap.size := by rw [← hU5]; exact Nat.le_trans hb5.size (size_setN _)
       rw [hU5n]
       clear hU5n hU5 oI oB hb5 kG kG5 zG zG5 u1 u2 uf1 uf2
       have kG := kG_
       clear kG_
       have zG := kG.lt
       obtain ⟨-, -, -, u3, -⟩ := zc11 kG
       go_wp2_with fail
       refine (HAD.out b2 k2 U5 O5.o2.sr.sw).mono ?_
       rintro e6 w6 ⟨A2, cc2, rfl, oM, hb6⟩
       clear u3
       have kG6 := kG.below_ hb6 zG
       have zG6 := kG6.lt
       replace kC := kC.below_ hb6 kC.lt
       replace kR := kR.below_ hb6 kR.lt
       obtain ⟨-, -, -, u3, -⟩ := zc11 kG6
       have uf3 := kG6.frozen_ 3
       go_upto_region 16 with fail
       obtain ⟨U6, hU6⟩ : ∃ U, setN w6 G 3 [.slice A2 (s.wr.length + 1) cc2] = U := ⟨_, rfl⟩
       have hU6n : World.setCell w6 ⟨G, 3, none⟩ (.slice A2 (s.wr.length + 1) cc2) = U6 := hU6
       have kG_ : Blk U6 G 35 #[.int .i64 s.cap, .slice A T.refs.length c, .slice B1 T.busy.length d1, .slice A2 (s.wr.length + 1) cc2, .slice b3 s.rd.length k3, .slice b4 s.desc.length k4, .slice b5 s.dk.cells.length k5, .slice b6 s.dk.jobs.length k6, .int .i64 s.dk.room, .int .i64 s.po.size, .slice b7 s.po.free.length k7] := by rw [← hU6]; exact (Blk.set_ kG6 3 _)
       replace kC := (show Blk U6 _ _ _ from by rw [← hU6]; exact kC.kept (grown_setN _ _ _ _) (by simp; omega))
       replace kR := (show Blk U6 _ _ _ from by rw [← hU6]; exact kR.kept (grown_setN _ _ _ _) (by simp; omega))
       have O6 : SwO U6 w3.heap.size ⟨A, c, B1, d1, A2, cc2, b3, k3, b4, k4, b5, k5, b6, k6, b7, k7⟩ { s with sl := T, wr := s.wr ++ [((i : Int), f, 0)] } := by
        rw [← hU6]
        have x := O5.ext hb6
        exact SwO.farO (L := ⟨A, c, B1, d1, A2, cc2, b3, k3, b4, k4, b5, k5, b6, k6, b7, k7⟩) (s := { s with sl := T, wr := s.wr ++ [((i : Int), f, 0)] }) ⟨x.o0, x.o1, oM.base_ (by omega), x.o3, x.o4, x.o5, x.o6, x.o7, x.p0, x.p7⟩ kG6 [.slice A2 (s.wr.length + 1) cc2]
       have B6 : Below w.heap.size w U6 := by rw [← hU6]; exact below_setN (B5.trans (hb6.mono B5.size)) hwG [.slice A2 (s.wr.length + 1) cc2]
       have s6 : U5.heap.size ≤ U6.heap.size := by rw [← hU6]; exact Nat.le_trans hb6.size (size_setN [.slice A2 (s.wr.length + 1) cc2])
       rw [hU6n]
       clear hU6n hU6 oM hb6 kG kG6 zG zG6 u3 uf3
       have kG := kG_
       clear kG_
       have zG := kG.lt
       have zC := kC.lt
       obtain ⟨-, -, -, -, -, -, u6, u7, u8, -⟩ := zc11 kG
       obtain ⟨y0, y1, y2, y3, y4, y5, y6, y7⟩ := zc8 kC
       go_wp2_with fail
       refine (HWR.out b5 b6 k5 k6 U6 O6.o5.sr O6.o6.sr).mono ?_
       rintro e7 w7 ⟨A6, d6, A7, d7, rfl, oC, oJ, hb7⟩
       unfold dkV
       dsimp only
       clear zC u6 u7 u8 y0 y1 y2 y3 y4 y5 y6 y7
       have kG7 := kG.below_ hb7 zG
       have zG7 := kG7.lt
       replace kC := kC.below_ hb7 kC.lt
       replace kR := kR.below_ hb7 kR.lt
       obtain ⟨-, -, -, -, -, -, u6, u7, u8, -⟩ := zc11 kG7
       obtain ⟨-, -, -, -, -, -, uf6, uf7, uf8, -⟩ := zf kG7
       go_upto_region 17 with fail
       obtain ⟨U7, hU7⟩ : ∃ U, setN w7 G 6 [.slice A6 D.cells.length d6, .slice A7 D.jobs.length d7, .int .i64 D.room] = U := ⟨_, rfl⟩
       have hU7n : World.setCell (World.setCell (World.setCell w7 ⟨G, 6, none⟩ (.slice A6 D.cells.length d6)) ⟨G, 7, none⟩ (.slice A7 D.jobs.length d7)) ⟨G, 8, none⟩ (.int .i64 D.room) = U7 := hU7
       have kG_ : Blk U7 G 35 #[.int .i64 s.cap, .slice A T.refs.length c, .slice B1 T.busy.length d1, .slice A2 (s.wr.length + 1) cc2, .slice b3 s.rd.length k3, .slice b4 s.desc.length k4, .slice A6 D.cells.length d6, .slice A7 D.jobs.length d7, .int .i64 D.room, .int .i64 s.po.size, .slice b7 s.po.free.length k7] := by rw [← hU7]; exact (Blk.set_ (Blk.set_ (Blk.set_ kG7 6 _) 7 _) 8 _)
       replace kC := (show Blk U7 _ _ _ from by rw [← hU7]; exact kC.kept (grown_setN _ _ _ _) (by simp; omega))
       replace kR := (show Blk U7 _ _ _ from by rw [← hU7]; exact kR.kept (grown_setN _ _ _ _) (by simp; omega))
       have O7 : SwO U7 w3.heap.size ⟨A, c, B1, d1, A2, cc2, b3, k3, b4, k4, A6, d6, A7, d7, b7, k7⟩ { s with sl := T, wr := s.wr ++ [((i : Int), f, 0)], dk := D } := by
        rw [← hU7]
        have x := O6.ext hb7
        exact SwO.farO (L := ⟨A, c, B1, d1, A2, cc2, b3, k3, b4, k4, A6, d6, A7, d7, b7, k7⟩) (s := { s with sl := T, wr := s.wr ++ [((i : Int), f, 0)], dk := D }) ⟨x.o0, x.o1, x.o2, x.o3, x.o4, oC.base_ (by omega), oJ.base_ (by omega), x.o7, x.p0, x.p7⟩ kG7 _
       have B7 : Below w.heap.size w U7 := by rw [← hU7]; exact below_setN (B6.trans (hb7.mono B6.size)) hwG _
       have s7 : U6.heap.size ≤ U7.heap.size := by rw [← hU7]; exact Nat.le_trans hb7.size (size_setN _)
       rw [hU7n]
       clear hU7n hU7 oC oJ hb7 kG kG7 zG zG7 u6 u7 u8 uf6 uf7 uf8
       have kG := kG_
       clear kG_
       have zG := kG.lt
       have e7 : ({ s with sl := T, wr := s.wr ++ [((i : Int), f, 0)], dk := D } : Swp).wr.length = s.wr.length + 1 := by simp
       have HDE := Lib.hid (rwDescribe_any _ _ w3.heap.size U7 O7 (by omega) HOP.out HFR.out HDL.out)
       unfold swV swC at HDE
       dsimp only at HDE
       rw [show (s.wr ++ [(((i : Int), f, 0) : Wr)]).length = s.wr.length + 1 from by simp, HS7.out] at HDE
       clear e7 O7
       obtain ⟨u0, u1, u2, u3, u4, u5, u6, u7, u8, u9, u10⟩ := zc11 kG
       go_wp2_with fail
       refine HDE.out.mono ?_
       rintro e8 w8 ⟨⟨m0, n0, m1, n1, m2, n2, m3, n3, m4, n4, m5, n5, m6, n6, m7, n7⟩, rfl, O8, hb8⟩
       replace kR := kR.below_ hb8 (by omega)
       have zR := kR.lt
       have B8 : Below w.heap.size w w8 := B7.trans (hb8.mono (by omega))
       clear hb8 u0 u1 u2 u3 u4 u5 u6 u7 u8 u9 u10
       dsimp only
       obtain ⟨t0, t1, t2, t3, t4, t5, t6, t7, t8, t9, t10⟩ := zc11 kR
       obtain ⟨tf0, tf1, tf2, tf3, tf4, tf5, tf6, tf7, tf8, tf9, tf10, -⟩ := zf kR
       have HO8 := Lib.hid O8
       clear O8
       go_wp2_with fail
       obtain ⟨W, hW⟩ : ∃ W, setN w8 (w.heap.size + 2) 0 (zkx S7 m0 n0 m1 n1 m2 n2 m3 n3 m4 n4 m5 n5 m6 n6 m7 n7) = W := ⟨_, rfl⟩
       have hWn := zs11 hW
       have kW := zsw hW kR
       have bW := zbw hW B8 (by omega)
       have OW : SwO W w3.heap.size ⟨m0, n0, m1, n1, m2, n2, m3, n3, m4, n4, m5, n5, m6, n6, m7, n7⟩ S7 := by rw [← hW]; exact HO8.out.farO kR _
       rw [hWn]
       clear hWn hW t0 tf0 t1 tf1 t2 tf2 t3 tf3 t4 tf4 t5 tf5 t6 tf6 t7 tf7 t8 tf8 t9 tf9 t10 tf10
       refine bodyPost_ret (by simp [results, Tryz.results17, go_sem, zc11 kW] <;> rfl) rfl ?_
       rw [HE.out]
       exact ⟨⟨m0, n0, m1, n1, m2, n2, m3, n3, m4, n4, m5, n5, m6, n6, m7, n7⟩, rfl, OW.sw, bW⟩
      ·have HE : Hid (Q = (.zero, 0, 5)) := by show _ = _; rw [← HQ.out]; unfold wrtW; rw [HZZ.out, if_neg (by simp), HD1.out, if_neg (by simp), if_neg HR2.out, HUS.out, if_neg (by simp), HHL.out, if_pos hn]
       have hnb : 0 < hl.length := List.length_pos_iff.2 hn
       clear hn
       have ztR := kR.lt
       obtain ⟨t0, t1, t2, t3, t4, t5, t6, t7, t8, t9, t10⟩ := zc11 kR
       obtain ⟨tf0, tf1, tf2, tf3, tf4, tf5, tf6, tf7, tf8, tf9, tf10, -⟩ := zf kR
       go_wp2_with fail
       obtain ⟨W, hW⟩ : ∃ W, setN w3 (w.heap.size + 2) 0 zkz = W := ⟨_, rfl⟩
       have hWn := zs11 hW
       have kW := zsw hW kR
       have bW := zbw hW B3 (by omega)
       rw [hWn]
       clear hWn hW t0 tf0 t1 tf1 t2 tf2 t3 tf3 t4 tf4 t5 tf5 t6 tf6 t7 tf7 t8 tf8 t9 tf9 t10 tf10
       refine bodyPost_ret (by simp [results, Tryz.results17, go_sem, zc11 kW] <;> rfl) rfl ?_
       rw [HE.out]
       exact ⟨.zero, rfl, (SwO.zero (base := 0)).sw, bW⟩
 ·have HE : Hid (Q = (.zero, 0, z)) := by show _ = _; rw [← HQ.out]; unfold wrtW; rw [HZZ.out, if_pos (by simpa using z0)]
  have zb : (z != 0) = true := by simpa using z0
  clear z0
  have ztR := kR.lt
  obtain ⟨t0, t1, t2, t3, t4, t5, t6, t7, t8, t9, t10⟩ := zc11 kR
  obtain ⟨tf0, tf1, tf2, tf3, tf4, tf5, tf6, tf7, tf8, tf9, tf10, -⟩ := zf kR
  go_wp2_with fail
  obtain ⟨W, hW⟩ : ∃ W, setN w1 (w.heap.size + 2) 0 zkz = W := ⟨_, rfl⟩
  have hWn := zs11 hW
  have kW := zsw hW kR
  have bW := zbw hW B1 (by omega)
  rw [hWn]
  clear hWn hW t0 tf0 t1 tf1 t2 tf2 t3 tf3 t4 tf4 t5 tf5 t6 tf6 t7 tf7 t8 tf8 t9 tf9 t10 tf10
  refine bodyPost_ret (by simp [results, Tryz.results17, go_sem, zc11 kW] <;> rfl) rfl ?_
  rw [HE.out]
  exact ⟨.zero, rfl, (SwO.zero (base := 0)).sw, bW⟩
theorem wrtW_few {s : Swp} (h : Few s) (f r : Int) (x : Ct) : Few (wrtW s f r x).1 := by
 have z : Few .zero := ⟨by decide, by decide, by decide, by decide, by decide, by decide, by decide, by decide⟩
 by_cases h1 : chkW s ≠ 0
 ·unfold wrtW; rw [if_pos h1]; exact z
 by_cases h2 : (!frW f) = true
 ·unfold wrtW; rw [if_neg h1, if_pos h2]; exact z
 by_cases h3 : r < 1 ∨ 512 < r
 ·unfold wrtW; rw [if_neg h1, if_neg h2, if_pos h3]; exact z
 by_cases h4 : usW s f = true
 ·unfold wrtW; rw [if_neg h1, if_neg h2, if_neg h3, if_pos h4]; exact z
 by_cases h5 : hinW s ≠ []
 ·unfold wrtW; rw [if_neg h1, if_neg h2, if_neg h3, if_neg h4, if_pos h5]; exact z
 have hok : OkS s := chkW_ok.1 (by simpa using h1)
 obtain ⟨i, d, l, hi, _, _, hfs, hfr, p1, p2, p3, p4, p5⟩ := wrt_parts hok x (f := f) (r := r) (by simpa using h2) (by omega) (by simpa using h4) (by simpa using h5)
 have hl1 := hok.dk.few
 have hl2 := hok.dk.room
 have hl3 := hok.wr.1
 have hl4 := hok.po.len
 have hl5 := hok.dlen
 unfold wrtW
 rw [if_neg h1, if_neg h2, if_neg h3, if_neg h4, if_neg h5]
 unfold describeW
 dsimp only
 rw [p1, p2, p4]
 have hb := hok.sl.blen
 have f0 := h.f0
 have f5 := h.f5
 have f3 := h.f3
 rw [hfr] at hl4
 simp at hl4
 refine ⟨by simp [witT]; omega, by simp [witT]; omega, by simp; omega, f3, by simp; omega, f5, by simp; omega, by simp; omega⟩
theorem swapWrites_walk (L : Lay) (s : Swp) (f r : Int) (x : Ct) (w : World) (h : SwR w L s) (hwf : ∀ v ∈ s.rd, (Lit.int .i64 v.2.2).wf = true) (_h1 : (Lit.int .i64 f).wf = true) (_h2 : (Lit.int .i64 r).wf = true) (hz : TZ w) :
  Calls Tryz.prog 3 #[swV L s, .int .i64 f, .int .i64 r, ctV x] w fun e w' => e = .returned (.bool true) ∧ Below w.heap.size w w' := by
 obtain ⟨a0, c0, a1, c1, a2, c2, a3, c3, a4, c4, a5, c5, a6, c6, a7, c7⟩ := L
 have HS := Lib.hid h
 have HTZ := Lib.hid hz
 have HWF := Lib.hid hwf
 have HW0 : 0 < w.heap.size := hz.pos
 clear h hz hwf _h1 _h2
 obtain ⟨lg, hlg⟩ : ∃ b, larW s = b := ⟨_, rfl⟩
 have hLA := fun W => large_any ⟨a0, c0, a1, c1, a2, c2, a3, c3, a4, c4, a5, c5, a6, c6, a7, c7⟩ s W
 rw [hlg] at hLA
 have HLA := Lib.hid hLA
 clear hLA
 unfold swV swC at HLA
 unfold swV swC ctV ctC
 obtain ⟨X, hX⟩ : ∃ X, (w.alloc (.cells (zkx s a0 c0 a1 c1 a2 c2 a3 c3 a4 c4 a5 c5 a6 c6 a7 c7).toArray 35)).alloc (.cells (zkk x.c0 x.c1 x.c2 x.c3 x.c4 x.c5 x.c6 x.c7).toArray 38) = X := ⟨_, rfl⟩
 have kS := za1 hX
 have kC := za2 hX
 have BX : Below w.heap.size w X := by rw [← hX]; exact zbl
 have zkS_ := kS.lt
 obtain ⟨q0, q1, q2, q3, q4, q5, q6, q7, q8, q9, q10⟩ := zc11 kS
 go_enter Tryz.func3, Tryz.ntmps3
 go_wp2_with fail
 (try rw [hX])
 clear hX
 refine (HLA.out X).mono ?_
 rintro e1 w1 ⟨rfl, hb1⟩
 have B1 := zbt BX hb1
 replace kS := kS.below_ hb1 kS.lt
 replace kC := kC.below_ hb1 kC.lt
 clear zkS_ q0 q1 q2 q3 q4 q5 q6 q7 q8 q9 q10
 cases lg with
 | true =>
  go_wp2_with fail
  refine (awake_any w1 (HTZ.out.ext HW0 B1)).mono ?_
  rintro e2 w2 ⟨rfl, hb2⟩
  go_wp2_with fail
  go_ret
  exact ⟨rfl, B1.trans (hb2.mono B1.size)⟩
 | false =>
  have HF : Hid (Few s) := larW_few hlg
  clear hlg hb1
  have HOWN := Lib.hid (kOwnSwap_any ⟨a0, c0, a1, c1, a2, c2, a3, c3, a4, c4, a5, c5, a6, c6, a7, c7⟩ s w1 (HS.out.ext B1) HF.out)
  have zkS_ := kS.lt
  obtain ⟨q0, q1, q2, q3, q4, q5, q6, q7, q8, q9, q10⟩ := zc11 kS
  go_wp2_with fail
  refine HOWN.out.mono ?_
  rintro e2 w2 ⟨⟨i0, j0, i1, j1, i2, j2, i3, j3, i4, j4, i5, j5, i6, j6, i7, j7⟩, rfl, hI, hb2⟩
  have B2 := zbt B1 hb2
  replace kS := kS.below_ hb2 kS.lt
  replace kC := kC.below_ hb2 kC.lt
  clear zkS_ q0 q1 q2 q3 q4 q5 q6 q7 q8 q9 q10
  unfold swV swC
  dsimp only
  go_upto_region 4 with fail
  obtain ⟨V2, hV⟩ : ∃ V, w2.alloc (.cells (zkx s i0 j0 i1 j1 i2 j2 i3 j3 i4 j4 i5 j5 i6 j6 i7 j7).toArray 35) = V := ⟨_, rfl⟩
  obtain ⟨BI, hBe⟩ : ∃ B, w2.heap.size = B := ⟨_, rfl⟩
  have kI : Blk V2 BI 35 (zkx s i0 j0 i1 j1 i2 j2 i3 j3 i4 j4 i5 j5 i6 j6 i7 j7).toArray := by rw [← hV, ← hBe]; exact Blk.new_ rfl rfl
  have hbV := zab hV
  replace kS := kS.below_ hbV kS.lt
  replace kC := kC.below_ hbV kC.lt
  rw [hV, hBe]
  clear hV hBe
  have B3 := B2.trans (hbV.mono B2.size)
  have HI2 : Hid (SwR V2 ⟨i0, j0, i1, j1, i2, j2, i3, j3, i4, j4, i5, j5, i6, j6, i7, j7⟩ s) := hI.ext hbV
  clear hI hb2 hbV HOWN
  have HSA : Hid (SwA V2 ⟨i0, j0, i1, j1, i2, j2, i3, j3, i4, j4, i5, j5, i6, j6, i7, j7⟩ s) := ⟨HI2.out, HF.out, HWF.out⟩
  have HH1 := Lib.hid (Hinders_any ⟨i0, j0, i1, j1, i2, j2, i3, j3, i4, j4, i5, j5, i6, j6, i7, j7⟩ s V2 HSA.out (HTZ.out.ext HW0 B3))
  have zkI_ := kI.lt
  obtain ⟨q0, q1, q2, q3, q4, q5, q6, q7, q8, q9, q10⟩ := zc11 kI
  go_wp2_with fail
  refine HH1.out.mono ?_
  rintro e3 w3 ⟨lA, lc, rfl, hl1, hb3⟩
  have B4 := zbt B3 hb3
  replace kS := kS.below_ hb3 kS.lt
  replace kC := kC.below_ hb3 kC.lt
  replace kI := kI.below_ hb3 kI.lt
  have HL1 := Lib.hid hl1
  have HI3 : Hid (SwR w3 ⟨i0, j0, i1, j1, i2, j2, i3, j3, i4, j4, i5, j5, i6, j6, i7, j7⟩ s) := HI2.out.ext hb3
  clear zkI_ q0 q1 q2 q3 q4 q5 q6 q7 q8 q9 q10
  clear hl1 HH1 HSA
  have HH2 := Lib.hid (rwHindersE_any ⟨a0, c0, a1, c1, a2, c2, a3, c3, a4, c4, a5, c5, a6, c6, a7, c7⟩ s w3 (HS.out.ext B4) HF.out)
  have zkS_ := kS.lt
  obtain ⟨q0, q1, q2, q3, q4, q5, q6, q7, q8, q9, q10⟩ := zc11 kS
  go_wp2_with fail
  refine HH2.out.mono ?_
  rintro e4 w4 ⟨lB, ld, rfl, hl2, hb4⟩
  have B5 := zbt B4 hb4
  replace kS := kS.below_ hb4 kS.lt
  replace kC := kC.below_ hb4 kC.lt
  replace kI := kI.below_ hb4 kI.lt
  have HL2 := Lib.hid hl2
  replace HL1 := Lib.hid (HL1.out.ext hb4)
  have HI4 : Hid (SwR w4 ⟨i0, j0, i1, j1, i2, j2, i3, j3, i4, j4, i5, j5, i6, j6, i7, j7⟩ s) := HI3.out.ext hb4
  clear zkS_ q0 q1 q2 q3 q4 q5 q6 q7 q8 q9 q10
  clear hl2 HH2 HI3 hb3 hb4
  obtain ⟨⟨S, nr, er⟩, hS⟩ : ∃ q, wrtW s f r x = q := ⟨_, rfl⟩
  have HFS : Hid (Few S) := by have := wrtW_few HF.out f r x; rw [hS] at this; exact this
  have hW1 := WriteOut_any ⟨i0, j0, i1, j1, i2, j2, i3, j3, i4, j4, i5, j5, i6, j6, i7, j7⟩ s f r x w4 ⟨HI4.out, HF.out, HWF.out⟩ (HTZ.out.ext HW0 B5)
  rw [hS] at hW1
  have HW1 := Lib.hid hW1
  have hW2 := fun W hw => rwWriteOut_any ⟨a0, c0, a1, c1, a2, c2, a3, c3, a4, c4, a5, c5, a6, c6, a7, c7⟩ s f r x W hw HF.out
  rw [hS] at hW2
  have HW2 := Lib.hid hW2
  clear hW1 hW2 hS
  unfold swV swC ctV ctC at HW1 HW2
  have zkC := kC.lt
  obtain ⟨c_0, c_1, c_2, c_3, c_4, c_5, c_6, c_7⟩ := zc8 kC
  have zkI_ := kI.lt
  obtain ⟨q0, q1, q2, q3, q4, q5, q6, q7, q8, q9, q10⟩ := zc11 kI
  go_wp2_with fail
  refine HW1.out.mono ?_
  rintro e5 w5 ⟨⟨m0, n0, m1, n1, m2, n2, m3, n3, m4, n4, m5, n5, m6, n6, m7, n7⟩, rfl, oa, hb5⟩
  have B6 := zbt B5 hb5
  replace kS := kS.below_ hb5 kS.lt
  replace kC := kC.below_ hb5 kC.lt
  replace kI := kI.below_ hb5 kI.lt
  replace HL1 := Lib.hid (HL1.out.ext hb5)
  replace HL2 := Lib.hid (HL2.out.ext hb5)
  have HI5 : Hid (SwR w5 ⟨i0, j0, i1, j1, i2, j2, i3, j3, i4, j4, i5, j5, i6, j6, i7, j7⟩ s) := HI4.out.ext hb5
  clear zkI_ q0 q1 q2 q3 q4 q5 q6 q7 q8 q9 q10
  clear zkC c_0 c_1 c_2 c_3 c_4 c_5 c_6 c_7 HW1 HI4
  unfold swV swC
  dsimp only
  go_upto_region 7 with fail
  obtain ⟨V5, hV⟩ : ∃ V, w5.alloc (.cells (zkx S m0 n0 m1 n1 m2 n2 m3 n3 m4 n4 m5 n5 m6 n6 m7 n7).toArray 35) = V := ⟨_, rfl⟩
  obtain ⟨BA, hBe⟩ : ∃ B, w5.heap.size = B := ⟨_, rfl⟩
  have kA : Blk V5 BA 35 (zkx S m0 n0 m1 n1 m2 n2 m3 n3 m4 n4 m5 n5 m6 n6 m7 n7).toArray := by rw [← hV, ← hBe]; exact Blk.new_ rfl rfl
  have hbV := zab hV
  replace kS := kS.below_ hbV kS.lt
  replace kC := kC.below_ hbV kC.lt
  replace kI := kI.below_ hbV kI.lt
  rw [hV, hBe]
  clear hV hBe
  have B6' := B6.trans (hbV.mono B6.size)
  have HA5 : Hid (SwR V5 ⟨m0, n0, m1, n1, m2, n2, m3, n3, m4, n4, m5, n5, m6, n6, m7, n7⟩ S) := oa.sw.ext hbV
  replace HL1 := Lib.hid (HL1.out.ext hbV)
  replace HL2 := Lib.hid (HL2.out.ext hbV)
  replace HI5 := Lib.hid (HI5.out.ext hbV)
  clear oa hb5 hbV B6
  have zkC := kC.lt
  obtain ⟨c_0, c_1, c_2, c_3, c_4, c_5, c_6, c_7⟩ := zc8 kC
  have zkS_ := kS.lt
  obtain ⟨q0, q1, q2, q3, q4, q5, q6, q7, q8, q9, q10⟩ := zc11 kS
  have HW3 := Lib.hid (HW2.out V5 (HS.out.ext B6'))
  go_wp2_with fail
  refine HW3.out.mono ?_
  rintro e6 w6 ⟨⟨u0, v0, u1, v1, u2, v2, u3, v3, u4, v4, u5, v5, u6, v6, u7, v7⟩, rfl, ob, hb6⟩
  have B6 := zbt B6' hb6
  replace kS := kS.below_ hb6 kS.lt
  replace kI := kI.below_ hb6 kI.lt
  replace kA := kA.below_ hb6 kA.lt
  replace HL1 := Lib.hid (HL1.out.ext hb6)
  replace HL2 := Lib.hid (HL2.out.ext hb6)
  replace HI5 := Lib.hid (HI5.out.ext hb6)
  replace HA5 := Lib.hid (HA5.out.ext hb6)
  clear zkS_ q0 q1 q2 q3 q4 q5 q6 q7 q8 q9 q10
  clear zkC kC c_0 c_1 c_2 c_3 c_4 c_5 c_6 c_7 HW2 HW3
  unfold swV swC
  dsimp only
  go_upto_region 8 with fail
  obtain ⟨V6, hV⟩ : ∃ V, w6.alloc (.cells (zkx S u0 v0 u1 v1 u2 v2 u3 v3 u4 v4 u5 v5 u6 v6 u7 v7).toArray 35) = V := ⟨_, rfl⟩
  obtain ⟨BB, hBe⟩ : ∃ B, w6.heap.size = B := ⟨_, rfl⟩
  have kB : Blk V6 BB 35 (zkx S u0 v0 u1 v1 u2 v2 u3 v3 u4 v4 u5 v5 u6 v6 u7 v7).toArray := by rw [← hV, ← hBe]; exact Blk.new_ rfl rfl
  have hbV := zab hV
  replace kS := kS.below_ hbV kS.lt
  replace kI := kI.below_ hbV kI.lt
  replace kA := kA.below_ hbV kA.lt
  rw [hV, hBe]
  clear hV hBe
  have B7 := B6.trans (hbV.mono B6.size)
  have HB6 : Hid (SwR V6 ⟨u0, v0, u1, v1, u2, v2, u3, v3, u4, v4, u5, v5, u6, v6, u7, v7⟩ S) := ob.ext hbV
  replace HL1 := Lib.hid (HL1.out.ext hbV)
  replace HL2 := Lib.hid (HL2.out.ext hbV)
  replace HI5 := Lib.hid (HI5.out.ext hbV)
  replace HA5 := Lib.hid (HA5.out.ext hbV)
  clear ob hb6 hbV B6 B6'
  obtain ⟨z, hzz⟩ : ∃ z, chkW s = z := ⟨_, rfl⟩
  have HC1 : Hid (∀ V, Below V6.heap.size V6 V → Calls Tryz.prog 18 #[.agg (zkx s i0 j0 i1 j1 i2 j2 i3 j3 i4 j4 i5 j5 i6 j6 i7 j7).toArray] V fun e w' => e = .returned (.int .i64 z) ∧ Below V.heap.size V w') := by
   show ∀ V, _
   intro V hV
   rw [← hzz]
   exact wCheck_any ⟨i0, j0, i1, j1, i2, j2, i3, j3, i4, j4, i5, j5, i6, j6, i7, j7⟩ s V ⟨HI5.out.ext hV, HF.out, HWF.out⟩ (HTZ.out.ext HW0 (B7.trans (hV.mono B7.size)))
  have HC2 : Hid (∀ V, Below V6.heap.size V6 V → Calls Tryz.prog 19 #[.agg (zkx s a0 c0 a1 c1 a2 c2 a3 c3 a4 c4 a5 c5 a6 c6 a7 c7).toArray] V fun e w' => e = .returned (.int .i64 z) ∧ Below V.heap.size V w') := by
   show ∀ V, _
   intro V hV
   rw [← hzz]
   exact rwCheck_any ⟨a0, c0, a1, c1, a2, c2, a3, c3, a4, c4, a5, c5, a6, c6, a7, c7⟩ s V (HS.out.ext (B7.trans (hV.mono B7.size))) HF.out
  have hhl : (hinE s).1.length ≤ 1000 := by
   unfold hinE hinW
   split
   ·simp
   ·split <;> split <;> split <;> simp
  have HSI : Hid (∀ V, Below V6.heap.size V6 V → Calls Tryz.prog 20 #[.slice lA (hinE s).1.length lc, .slice lB (hinE s).1.length ld] V fun e w' => e = .returned (.bool true) ∧ Below V.heap.size V w') := by
   show ∀ V, _
   intro V hV
   have := SameInts_any lA lB lc ld (hinE s).1 (hinE s).1 V (HL1.out.ext hV).sl (HL2.out.ext hV).sl (by omega) (by omega)
   rwa [decide_eq_true rfl] at this
  have HSW : Hid (∀ V, Below V6.heap.size V6 V → Calls Tryz.prog 21 #[.agg (zkx S m0 n0 m1 n1 m2 n2 m3 n3 m4 n4 m5 n5 m6 n6 m7 n7).toArray, .agg (zkx S u0 v0 u1 v1 u2 v2 u3 v3 u4 v4 u5 v5 u6 v6 u7 v7).toArray] V fun e w' => e = .returned (.bool true) ∧ Below V.heap.size V w') := by
   show ∀ V, _
   intro V hV
   exact sameSwap_refl ⟨m0, n0, m1, n1, m2, n2, m3, n3, m4, n4, m5, n5, m6, n6, m7, n7⟩ ⟨u0, v0, u1, v1, u2, v2, u3, v3, u4, v4, u5, v5, u6, v6, u7, v7⟩ S V (HA5.out.ext hV) (HB6.out.ext hV) HFS.out
  have HSS : Hid (∀ V, Below V6.heap.size V6 V → Calls Tryz.prog 21 #[.agg (zkx s i0 j0 i1 j1 i2 j2 i3 j3 i4 j4 i5 j5 i6 j6 i7 j7).toArray, .agg (zkx s a0 c0 a1 c1 a2 c2 a3 c3 a4 c4 a5 c5 a6 c6 a7 c7).toArray] V fun e w' => e = .returned (.bool true) ∧ Below V.heap.size V w') := by
   show ∀ V, _
   intro V hV
   exact sameSwap_refl ⟨i0, j0, i1, j1, i2, j2, i3, j3, i4, j4, i5, j5, i6, j6, i7, j7⟩ ⟨a0, c0, a1, c1, a2, c2, a3, c3, a4, c4, a5, c5, a6, c6, a7, c7⟩ s V (HI5.out.ext hV) (HS.out.ext (B7.trans (hV.mono B7.size))) HF.out
  have HAW : Hid (∀ V, Below V6.heap.size V6 V → Calls Tryz.prog 12 #[] V fun e w' => e = .returned (.bool true) ∧ Below V.heap.size V w') := by
   show ∀ V, _
   intro V hV
   exact awake_any V (HTZ.out.ext HW0 (B7.trans (hV.mono B7.size)))
  obtain ⟨ln, hln⟩ : ∃ n, (hinE s).1.length = n := ⟨_, rfl⟩
  obtain ⟨he, hhe⟩ : ∃ n, (hinE s).2 = n := ⟨_, rfl⟩
  rw [hln] at HSI
  rw [hln, hhe]
  clear hzz hhl hln hhe
  refine wp_region_chain (.is ?flw0 :: .is (.int .i64 z) :: .is ?flw2 :: .is (.int .i64 z) :: .is (.bool true) :: .is ?flw5 :: .is ?flw6 :: .is ?flw7 :: .is (.bool true) :: .is ?flw9 :: .is ?flw10 :: .is ?flw11 :: .is ?flw12 :: .is (.bool true) :: .is ?flw14 :: .is ?flw15 :: .is ?flw16 :: .is ?flw17 :: .is (.bool true) :: .is ?flw19 :: .is ?flw20 :: .is ?flw21 :: .is ?flw22 :: .is (.bool true) :: .is ?flw24 :: .is ?flw25 :: .is ?flw26 :: .is ?flw27 :: .is (.bool true) :: .is ?flw29 :: .is ?flw30 :: .is ?flw31 :: .is ?flw32 :: .is (.bool true) :: .is ?flw34 :: .is ?flw35 :: .is (.bool true) :: .is ?flw37 :: .is ?flw38 :: []) (by kernel_rfl) (by kernel_rfl) (by kernel_rfl) (lasts_is (lasts_is (lasts_is (lasts_is (lasts_is (lasts_is (lasts_is (lasts_is (lasts_is (lasts_is (lasts_is (lasts_is (lasts_is (lasts_is (lasts_is (lasts_is (lasts_is (lasts_is (lasts_is (lasts_is (lasts_is (lasts_is (lasts_is (lasts_is (lasts_is (lasts_is (lasts_is (lasts_is (lasts_is (lasts_is (lasts_is (lasts_is (lasts_is (lasts_is (lasts_is (lasts_is (lasts_is (lasts_is (lasts_is lasts_nil))))))))))))))))))))))))))))))))))))))) (fun W0 hb0 hz0 => ?_)
  rotate_left 29
  have kS0 := kS.below_ hb0 kS.lt
  have zps := kS0.lt
  obtain ⟨ps0, ps1, ps2, ps3, ps4, ps5, ps6, ps7, ps8, ps9, ps10⟩ := zc11 kS0
  have kI0 := kI.below_ hb0 kI.lt
  have zpi := kI0.lt
  obtain ⟨pi0, pi1, pi2, pi3, pi4, pi5, pi6, pi7, pi8, pi9, pi10⟩ := zc11 kI0
  have kA0 := kA.below_ hb0 kA.lt
  have zpa := kA0.lt
  obtain ⟨pa0, pa1, pa2, pa3, pa4, pa5, pa6, pa7, pa8, pa9, pa10⟩ := zc11 kA0
  have kB0 := kB.below_ hb0 kB.lt
  have zpb := kB0.lt
  obtain ⟨pb0, pb1, pb2, pb3, pb4, pb5, pb6, pb7, pb8, pb9, pb10⟩ := zc11 kB0
  refine zoT (fun w hbw hd => ?_) ?_
  ·have r0_ := cell_keep hbw pi0 zpi
   have r1_ := cell_keep hbw pi1 zpi
   have r2_ := cell_keep hbw pi2 zpi
   have r3_ := cell_keep hbw pi3 zpi
   have r4_ := cell_keep hbw pi4 zpi
   have r5_ := cell_keep hbw pi5 zpi
   have r6_ := cell_keep hbw pi6 zpi
   have r7_ := cell_keep hbw pi7 zpi
   have r8_ := cell_keep hbw pi8 zpi
   have r9_ := cell_keep hbw pi9 zpi
   have r10_ := cell_keep hbw pi10 zpi
   exact zgs
  refine chain_is ?slw1 ?rlw1
  case slw1 =>
   intro w hbw hd K Q' hK
   clear hd
   go_simp
   refine (HC1.out w (hb0.trans (hbw.mono hb0.size))).mono ?_
   rintro e y ⟨rfl, hy⟩
   go_wp2_with fail
   refine hK.out (.int .i64 z) _ _ ?_ ?_ rfl
   ·(simp only [Act.put, zy0, zy1, zy2, List.nil_append, List.cons_append])
   ·exact zbm
  (try simp only [Act.put, zy0, zy1, zy2, List.nil_append, List.cons_append])
  refine zoT (fun w hbw hd => ?_) ?_
  ·have r0_ := cell_keep hbw ps0 zps
   have r1_ := cell_keep hbw ps1 zps
   have r2_ := cell_keep hbw ps2 zps
   have r3_ := cell_keep hbw ps3 zps
   have r4_ := cell_keep hbw ps4 zps
   have r5_ := cell_keep hbw ps5 zps
   have r6_ := cell_keep hbw ps6 zps
   have r7_ := cell_keep hbw ps7 zps
   have r8_ := cell_keep hbw ps8 zps
   have r9_ := cell_keep hbw ps9 zps
   have r10_ := cell_keep hbw ps10 zps
   exact zgs
  refine chain_is ?slw3 ?rlw3
  case slw3 =>
   intro w hbw hd K Q' hK
   clear hd
   go_simp
   refine (HC2.out w (hb0.trans (hbw.mono hb0.size))).mono ?_
   rintro e y ⟨rfl, hy⟩
   go_wp2_with fail
   refine hK.out (.int .i64 z) _ _ ?_ ?_ rfl
   ·(simp only [Act.put, zy0, zy1, zy2, List.nil_append, List.cons_append])
   ·exact zbm
  (try simp only [Act.put, zy0, zy1, zy2, List.nil_append, List.cons_append])
  refine zot ?_
  refine zot ?_
  refine zot ?_
  refine zot ?_
  refine chain_is ?slw8 ?rlw8
  case slw8 =>
   intro w hbw hd K Q' hK
   clear hd
   go_simp
   refine (HSI.out w (hb0.trans (hbw.mono hb0.size))).mono ?_
   rintro e y ⟨rfl, hy⟩
   go_wp2_with fail
   refine hK.out (.bool true) _ _ ?_ ?_ rfl
   ·(simp only [Act.put, zy0, zy1, zy2, List.nil_append, List.cons_append])
   ·exact zbm
  (try simp only [Act.put, zy0, zy1, zy2, List.nil_append, List.cons_append])
  refine zot ?_
  refine zot ?_
  refine zot ?_
  refine zot ?_
  refine zot ?_
  refine zot ?_
  refine zot ?_
  refine zoT (fun w hbw hd => ?_) ?_
  ·have r0_ := cell_keep hbw pa0 zpa
   have r1_ := cell_keep hbw pa1 zpa
   have r2_ := cell_keep hbw pa2 zpa
   have r3_ := cell_keep hbw pa3 zpa
   have r4_ := cell_keep hbw pa4 zpa
   have r5_ := cell_keep hbw pa5 zpa
   have r6_ := cell_keep hbw pa6 zpa
   have r7_ := cell_keep hbw pa7 zpa
   have r8_ := cell_keep hbw pa8 zpa
   have r9_ := cell_keep hbw pa9 zpa
   have r10_ := cell_keep hbw pa10 zpa
   exact zgs
  refine zoT (fun w hbw hd => ?_) ?_
  ·have r0_ := cell_keep hbw pb0 zpb
   have r1_ := cell_keep hbw pb1 zpb
   have r2_ := cell_keep hbw pb2 zpb
   have r3_ := cell_keep hbw pb3 zpb
   have r4_ := cell_keep hbw pb4 zpb
   have r5_ := cell_keep hbw pb5 zpb
   have r6_ := cell_keep hbw pb6 zpb
   have r7_ := cell_keep hbw pb7 zpb
   have r8_ := cell_keep hbw pb8 zpb
   have r9_ := cell_keep hbw pb9 zpb
   have r10_ := cell_keep hbw pb10 zpb
   exact zgs
  refine chain_is ?slw18 ?rlw18
  case slw18 =>
   intro w hbw hd K Q' hK
   clear hd
   go_simp
   refine (HSW.out w (hb0.trans (hbw.mono hb0.size))).mono ?_
   rintro e y ⟨rfl, hy⟩
   go_wp2_with fail
   refine hK.out (.bool true) _ _ ?_ ?_ rfl
   ·(simp only [Act.put, zy0, zy1, zy2, List.nil_append, List.cons_append])
   ·exact zbm
  (try simp only [Act.put, zy0, zy1, zy2, List.nil_append, List.cons_append])
  refine zot ?_
  refine zot ?_
  refine zot ?_
  refine zot ?_
  refine zot ?_
  refine zot ?_
  refine zot ?_
  refine zot ?_
  refine zot ?_
  refine zot ?_
  refine zot ?_
  refine zot ?_
  refine zoT (fun w hbw hd => ?_) ?_
  ·have r0_ := cell_keep hbw pi0 zpi
   have r1_ := cell_keep hbw pi1 zpi
   have r2_ := cell_keep hbw pi2 zpi
   have r3_ := cell_keep hbw pi3 zpi
   have r4_ := cell_keep hbw pi4 zpi
   have r5_ := cell_keep hbw pi5 zpi
   have r6_ := cell_keep hbw pi6 zpi
   have r7_ := cell_keep hbw pi7 zpi
   have r8_ := cell_keep hbw pi8 zpi
   have r9_ := cell_keep hbw pi9 zpi
   have r10_ := cell_keep hbw pi10 zpi
   exact zgs
  refine zoT (fun w hbw hd => ?_) ?_
  ·have r0_ := cell_keep hbw ps0 zps
   have r1_ := cell_keep hbw ps1 zps
   have r2_ := cell_keep hbw ps2 zps
   have r3_ := cell_keep hbw ps3 zps
   have r4_ := cell_keep hbw ps4 zps
   have r5_ := cell_keep hbw ps5 zps
   have r6_ := cell_keep hbw ps6 zps
   have r7_ := cell_keep hbw ps7 zps
   have r8_ := cell_keep hbw ps8 zps
   have r9_ := cell_keep hbw ps9 zps
   have r10_ := cell_keep hbw ps10 zps
   exact zgs
  refine chain_is ?slw33 ?rlw33
  case slw33 =>
   intro w hbw hd K Q' hK
   clear hd
   go_simp
   refine (HSS.out w (hb0.trans (hbw.mono hb0.size))).mono ?_
   rintro e y ⟨rfl, hy⟩
   go_wp2_with fail
   refine hK.out (.bool true) _ _ ?_ ?_ rfl
   ·(simp only [Act.put, zy0, zy1, zy2, List.nil_append, List.cons_append])
   ·exact zbm
  (try simp only [Act.put, zy0, zy1, zy2, List.nil_append, List.cons_append])
  refine zot ?_
  refine zot ?_
  refine chain_is ?slw36 ?rlw36
  case slw36 =>
   intro w hbw hd K Q' hK
   clear hd
   go_simp
   refine (HAW.out w (hb0.trans (hbw.mono hb0.size))).mono ?_
   rintro e y ⟨rfl, hy⟩
   go_wp2_with fail
   refine hK.out (.bool true) _ _ ?_ ?_ rfl
   ·(simp only [Act.put, zy0, zy1, zy2, List.nil_append, List.cons_append])
   ·exact zbm
  (try simp only [Act.put, zy0, zy1, zy2, List.nil_append, List.cons_append])
  refine zot ?_
  refine zot ?_
  refine chain_end (fun wz hbz hd => ?_)
  go_wp2_with fail
  go_ret
  exact ⟨rfl, B7.trans ((hb0.trans (hbz.mono hb0.size)).mono B7.size)⟩
end Go.Proofs.YthijbipidbjpfaaGreatDoor
namespace Go.Proofs.YthijbipidbjpfaaGreatDoor
open Go.RowKit Go.Maps
open Go.ChangeShapes Go.WideShapes Go.ChangeAt
theorem own : ownKnob Tryz.prog.godebug = none := by kernel_rfl
theorem laidOut : laidOutB Tryz.prog = true := by kernel_rfl
section
variable {H : Type} {enc : TypeId × Value → H} {P : Program}
theorem trodAll_below (hl : laidOutB P = true) {W W' : World} (hb : Below W.heap.size W W') : ∀ (ts : List TypeId) (vs : List Value) (ds : List (DataW H)) (ps : List MemPlace),
  (∀ t ∈ ts, P.readableRec t = true ∧ t < P.types.size) → (∀ x ∈ ps, x.block < W.heap.size) → DataW.TrodAll enc P W 0 (fun _ => true) true ts vs ds ps →
  DataW.TrodAll enc P W' 0 (fun b => decide (b < W.heap.size)) true ts vs ds ps
 | [], [], [], ps, _, _, h => h
 | [], _ :: _, _, _, _, _, h => by simp [DataW.TrodAll] at h
 | [], [], _ :: _, _, _, _, h => by simp [DataW.TrodAll] at h
 | _ :: _, [], _, _, _, _, h => by simp [DataW.TrodAll] at h
 | _ :: _, _ :: _, [], _, _, _, h => by simp [DataW.TrodAll] at h
 | t :: ts, v :: vs, d :: ds, ps, hr, hlt, h => by
  obtain ⟨p, q, h1, h2, rfl⟩ := h
  exact ⟨p, q, Below.trod hl (hr t (by simp)).1 (hr t (by simp)).2 h1 hb (fun x hx => hlt x (by simp [hx])), trodAll_below hl hb ts vs ds q (fun t ht => hr t (by simp [ht])) (fun x hx => hlt x (by simp [hx])) h2, rfl⟩
theorem law_post (hl : laidOutB P = true) {f : Func} {s : ChangeSpec} {B : TypeId} (hvars : s.vars = []) (hrt : f.resultTypes = #[B]) (hB : P.underlying B = some .bool) {W W' : World} {args : Array Value} {ds gs : List (DataW H)} {before : List MemPlace}
  (hr : ∀ t ∈ f.params.toList, P.readableRec t = true ∧ t < P.types.size)
  (hW : DataW.Whole enc P f.params.toList s.vars false W args.toList ds gs before) (hs : s.fn H (ds ++ gs) = { results := [.lit (.bool true)], args := ds }) (hb : Below W.heap.size W W') :
  s.post enc P f false true false false W args (.bool true) W' := by
 have hlt : ∀ p ∈ before, p.block < W.heap.size := fun p hp => hW.lt p hp
 have hW0 := hW
 obtain ⟨p, q, hA, hV, rfl, _, _⟩ := hW0
 rw [hvars] at hV
 obtain ⟨rfl, rfl⟩ := trodVars_none hV
 refine ⟨ds, [], p ++ [], [], p, [], hW, ?_, ?_, ?_, World.keptBut_mono (fun x hx => ⟨hx, .inr (.inl (by simpa using hx))⟩) (hb.frame (· ∈ p ++ [])), fun h => by cases h⟩
 ·rw [hs, hrt]
  exact trodAll_cons_mk (shut_bool hB _) trodAll_mk0
 ·rw [hs]
  exact trodAll_below hl hb _ _ _ _ hr (fun x hx => hlt x (by simpa using hx)) hA
 ·rw [hvars, hs]
  rfl
end
section
variable {H : Type} {enc : TypeId × Value → H} {P : Program} {W : World}
end
def laidV {H : Type} : List (String × DataW H) := [("math/bits.deBruijn64tab", Rows.laid_math_bits_deBruijn64tab)]
theorem gTab : Tryz.prog.globalNamed "math/bits.deBruijn64tab" = some 0 := by kernel_rfl
theorem tTab : (Tryz.prog.globals[0]?).map (·.type) = some 239 := by kernel_rfl
theorem cells1 : Tryz.prog.cellsOf 5 = 1 := by kernel_rfl
theorem door_met (os : Os) (args : Array Value) : laidMetH Tryz.prog laidV ((World.doorLaid Tryz.prog 400 os).forCall (fun _ _ => 0) ⟨#[], args, []⟩).memory :=
 laidMetH_of_parts3 (fuel := 8) (laidMet_of_run' 8 (by kernel_rfl) (by kernel_rfl)) (by kernel_rfl) (by kernel_rfl)
theorem tab_list {H : Type} : (Rows.laid_math_bits_deBruijn64tab : DataW H) = .agg (Lib.deBruijn64tab.map fun (n : Nat) => .lit (.int .u8 (n : Int))) := rfl
theorem tab_len : Lib.deBruijn64tab.length = 64 := by decide
theorem of_laid {W : World} (h : laidMetH Tryz.prog laidV W) : TZ W := by
 rw [MakeChecks.laidMetH_plain _ _ _ (by kernel_rfl)] at h
 obtain ⟨ps, ⟨g0, t0, cs0, f0, p0, q0, hg0, ht0, hv0, hd0, _, _⟩, _, _⟩ := h
 obtain rfl := Option.some.inj (gTab.symm.trans hg0)
 obtain rfl := Option.some.inj (tTab.symm.trans ht0)
 obtain ⟨xs, m, rfl, hx, hlen, hn, hel⟩ := DataW.trod_array Tryz.underlying239 hd0
 rw [cells1] at hel
 rw [tab_list] at hx
 simp only [Prod.mk.injEq, DataW.agg.injEq] at hx
 intro j hj
 rw [tab_len] at hj
 have h1 := hel j hj
 have hL : (xs.map (·.1))[j]? = some (.lit (.int .u8 ((Lib.deBruijn64tab.getD j 0 : Nat) : Int))) := by
  rw [← hx.1, List.getElem?_map, List.getD_eq_getElem?_getD, List.getElem?_eq_getElem (by rw [tab_len]; exact hj)]
  rfl
 rw [List.getElem?_map, Option.map_eq_some_iff] at hL
 obtain ⟨x, hxi, hxa⟩ := hL
 rw [hxi] at h1
 obtain ⟨k0, e0, f0, _⟩ := DataW.trod_int Tryz.underlying5 (show _ = some x from h1)
 rw [f0] at hxa
 simp at hxa
 subst hxa
 have v0 := World.var?_cell hg0 hv0 j
 have q0 : ((cs0.toList.drop j).take 1)[0]? = some (.int .u8 ((Lib.deBruijn64tab.getD j 0 : Nat) : Int)) := by
  have e1 := e0
  rw [Nat.mul_one] at e1
  rw [e1]
  rfl
 rw [List.getElem?_take_of_lt (by omega), List.getElem?_drop, Nat.add_zero, Array.getElem?_toList] at q0
 exact v0.trans q0
end Go.Proofs.YthijbipidbjpfaaGreatDoor
namespace Go.Proofs.YthijbipidbjpfaaGreatDoor
open Go.RowKit Go.Maps
open Go.ChangeShapes Go.WideShapes Go.ChangeAt Go.Joins Go.Deep
section
variable {H : Type} {enc : TypeId × Value → H} {P : Program} {W : World} {α : Type}
theorem flatR_inv (E : Elt P α) : ∀ (l : List α) (j : Nat) (u : Value), (E.flat l)[j]? = some u → ∃ k m x, l[k]? = some x ∧ (E.enc x)[m]? = some u ∧ j = k * E.sz + m
 | [], j, u, h => by simp [Elt.flat] at h
 | y :: l, j, u, h => by
  have e : E.flat (y :: l) = E.enc y ++ E.flat l := rfl
  rw [e] at h
  by_cases hj : j < E.sz
  ·rw [List.getElem?_append_left (by rw [E.hlen]; exact hj)] at h
   exact ⟨0, j, y, rfl, h, by omega⟩
  ·rw [List.getElem?_append_right (by rw [E.hlen]; omega), E.hlen] at h
   obtain ⟨k, m, x, h1, h2, h3⟩ := flatR_inv E l _ u h
   exact ⟨k + 1, m, x, h1, h2, by rw [Nat.succ_mul]; omega⟩
theorem SR.of_at {E : Elt P α} {b off : Nat} {l : List α} (hb : 0 < l.length → b < W.heap.size) (h : ∀ i x, l[i]? = some x → ∀ (j : Nat) u, (E.enc x)[j]? = some u → W.cell? ⟨b, off + i * E.sz + j, none⟩ = some u) : SR E W (some ⟨b, off, none⟩) l := fun hp => by
 refine ⟨b, off, rfl, hb (by rw [E.flat_length] at hp; exact Nat.pos_of_mul_pos_right hp), fun j u hu => ?_⟩
 obtain ⟨k, m, x, h1, h2, rfl⟩ := flatR_inv E l j u hu
 rw [← Nat.add_assoc]
 exact h k x h1 m u h2
end
end Go.Proofs.YthijbipidbjpfaaGreatDoor
