import Derived.Test.YthijbipidbjpfaaGreatDoorZC18
import Derived.Test.YthijbipidbjpfaaGreatDoorZC00
import Derived.Test.YthijbipidbjpfaaGreatDoorZC04
import Derived.Test.YthijbipidbjpfaaGreatDoorZC06
import Derived.Test.YthijbipidbjpfaaGreatDoorZC03
import Derived.Test.YthijbipidbjpfaaGreatDoorZC14
set_option linter.unusedSimpArgs false
set_option linter.unusedVariables false
set_option maxRecDepth 100000
set_option maxHeartbeats 8000000
namespace Go.Proofs.YthijbipidbjpfaaGreatDoor
open Go.RowKit Go.Maps
section
variable {w w1 : World} {base B : Nat} {L : Lay} {s : Swp}
theorem WkAt.lt (h : WkAt w base B L s) : B < w.heap.size := h.blk.lt
theorem WkAt.slots (h : WkAt w base B L s) (hb1 : Below w.heap.size w w1) {A A' : Option Addr} {c c' : Nat} {T : Sts} (oI : OwnE intE w1 w.heap.size A c T.refs) (oB : OwnE boolE w1 w.heap.size A' c' T.busy) :
  WkAt ((w1.setCell ⟨B, 1, none⟩ (.slice A T.refs.length c)).setCell ⟨B, 2, none⟩ (.slice A' T.busy.length c')) base B { L with a0 := A, c0 := c, a1 := A', c1 := c' } { s with sl := T } := by
 have hk := h.blk.below_ hb1 h.lt
 have hlb : base ≤ w.heap.size := by have := h.lt; have := h.low; omega
 have x := h.own.ext hb1
 have m : SwO w1 base { L with a0 := A, c0 := c, a1 := A', c1 := c' } { s with sl := T } :=
  ⟨oI.base_ hlb, oB.base_ hlb, x.o2, x.o3, x.o4, x.o5, x.o6, x.o7, (h.own.o4.part oI (Nat.le_refl _)).symm, x.p7⟩
 exact ⟨(hk.set_ 1 _).set_ 2 _, (m.farB hk 1 _).farB (hk.set_ 1 _) 2 _, h.low⟩
theorem WkAt.disk (h : WkAt w base B L s) (hb1 : Below w.heap.size w w1) {A A' : Option Addr} {c c' : Nat} {D : Dsk} (oI : OwnE ctE w1 w.heap.size A c D.cells) (oB : OwnE jbE w1 w.heap.size A' c' D.jobs) :
  WkAt (((w1.setCell ⟨B, 6, none⟩ (.slice A D.cells.length c)).setCell ⟨B, 7, none⟩ (.slice A' D.jobs.length c')).setCell ⟨B, 8, none⟩ (.int .i64 D.room)) base B { L with a5 := A, c5 := c, a6 := A', c6 := c' } { s with dk := D } := by
 have hk := h.blk.below_ hb1 h.lt
 have hlb : base ≤ w.heap.size := by have := h.lt; have := h.low; omega
 have x := h.own.ext hb1
 have m : SwO w1 base { L with a5 := A, c5 := c, a6 := A', c6 := c' } { s with dk := D } :=
  ⟨x.o0, x.o1, x.o2, x.o3, x.o4, oI.base_ hlb, oB.base_ hlb, x.o7, x.p0, x.p7⟩
 exact ⟨((hk.set_ 6 _).set_ 7 _).set_ 8 _, ((m.farB hk 6 _).farB (hk.set_ 6 _) 7 _).farB ((hk.set_ 6 _).set_ 7 _) 8 _, h.low⟩
theorem WkAt.writes (h : WkAt w base B L s) (hb1 : Below w.heap.size w w1) {A : Option Addr} {c : Nat} {l : List Wr} (oI : OwnM wrE w1 w.heap.size A c l) :
  WkAt (w1.setCell ⟨B, 3, none⟩ (.slice A l.length c)) base B { L with a2 := A, c2 := c } { s with wr := l } := by
 have hk := h.blk.below_ hb1 h.lt
 have hlb : base ≤ w.heap.size := by have := h.lt; have := h.low; omega
 have x := h.own.ext hb1
 have m : SwO w1 base { L with a2 := A, c2 := c } { s with wr := l } :=
  ⟨x.o0, x.o1, oI.base_ hlb, x.o3, x.o4, x.o5, x.o6, x.o7, x.p0, x.p7⟩
 exact ⟨hk.set_ 3 _, m.farB hk 3 _, h.low⟩
theorem WkAt.pool (h : WkAt w base B L s) (hb1 : Below w.heap.size w w1) {A : Option Addr} {c : Nat} {p : Pol} (oI : OwnE intE w1 w.heap.size A c p.free) :
  WkAt ((w1.setCell ⟨B, 9, none⟩ (.int .i64 p.size)).setCell ⟨B, 10, none⟩ (.slice A p.free.length c)) base B { L with a7 := A, c7 := c } { s with po := p } := by
 have hk := h.blk.below_ hb1 h.lt
 have hlb : base ≤ w.heap.size := by have := h.lt; have := h.low; omega
 have x := h.own.ext hb1
 have m : SwO w1 base { L with a7 := A, c7 := c } { s with po := p } :=
  ⟨x.o0, x.o1, x.o2, x.o3, x.o4, x.o5, x.o6, oI.base_ hlb, x.p0, (h.own.o4.part oI (Nat.le_refl _)).symm⟩
 exact ⟨(hk.set_ 9 _).set_ 10 _, (m.farB hk 9 _).farB (hk.set_ 9 _) 10 _, h.low⟩
theorem WkAt.reads (h : WkAt w base B L s) (hb1 : Below base w w1) (hk1 : KeptE L.a3 L.c3 w w1) {A : Option Addr} {c : Nat} {l : List Wr} (oI : OwnE rdE w1 base A c l) :
  WkAt (w1.setCell ⟨B, 4, none⟩ (.slice A l.length c)) base B { L with a3 := A, c3 := c } { s with rd := l } := by
 have hk := hk1.blk h.blk (h.own.o3.notT h.blk (by decide))
 have m := h.own.keptR hk1 oI
 exact ⟨hk.set_ 4 _, m.farB hk 4 _, h.low⟩
end
def DkF (D : Dsk) (v : Value) (lo _hi : Nat) (w : World) : Prop := ∃ A c A' c', v = .tuple #[dkV A c A' c' D, .int .i64 0] ∧ OwnE ctE w lo A c D.cells ∧ OwnE jbE w lo A' c' D.jobs
theorem DkF.lasts (D : Dsk) : (Fk.has (DkF D)).lasts := fun _ _ _ _ _ ⟨A, c, A', c', e, h, h'⟩ hb => ⟨A, c, A', c', e, h.ext hb, h'.ext hb⟩
theorem write_any (base B : Nat) (L : Lay) (s : Swp) (f r : Int) (x : Ct) (w : World) (h : WkAt w base B L s) (hf : Few s) (hok : OkP s.po) {T : Sts} {i : Nat} {D : Dsk} {W : List Wr} {d : Int} {l : List Int}
  (h1 : alcT s.sl r = (T, (i : Int), 0)) (h2 : addD s.dk ⟨true, i, f, x⟩ = (D, 0)) (h3 : addS s.wr i f = (W, 0)) (hfr : s.po.free = d :: l) :
  Calls Tryz.prog 51 #[.pointer (some ⟨B, 0, none⟩), .int .i64 f, .int .i64 r, ctV x] w fun e w' => e = .returned (.tuple #[.int .i64 i, .int .i64 0]) ∧ (∃ L', WkAt w' base B L' (describeW { s with sl := T, dk := D, wr := W })) ∧ Below base w w' := by
 obtain ⟨a0, c0, a1, c1, a2, c2, a3, c3, a4, c4, a5, c5, a6, c6, a7, c7⟩ := L
 obtain ⟨f0, f1, f2, f3, f4, f5, f6, f7⟩ := hf
 have H1 := Lib.hid h1
 have H2 := Lib.hid h2
 have H3 := Lib.hid h3
 have HOK := Lib.hid hok
 have HFR := Lib.hid hfr
 have hlow := h.low
 have hbw : base ≤ w.heap.size := by have := h.lt; omega
 unfold ctV ctC
 obtain ⟨X, hX⟩ : ∃ X, w.alloc (.cells (zkk x.c0 x.c1 x.c2 x.c3 x.c4 x.c5 x.c6 x.c7).toArray 38) = X := ⟨_, rfl⟩
 have BX : Below w.heap.size w X := by rw [← hX]; exact zbl
 have kX := za hX
 have K := h.ext BX
 have HK := Lib.hid K
 have kB : Blk X B 87 (zkx s a0 c0 a1 c1 a2 c2 a3 c3 a4 c4 a5 c5 a6 c6 a7 c7).toArray := K.blk
 have hC := sAlloc_any a0 a1 c0 c1 s.sl r X K.own.o0.sr K.own.o1.sr f0 f1
 rw [h1] at hC
 have HC := Lib.hid hC
 clear h1 h2 h3 hok hfr h hC K
 have zB := kB.lt
 have hbX : base ≤ X.heap.size := Nat.le_trans hbw BX.size
 obtain ⟨-, q1, q2, -⟩ := zc11 kB
 go_enter Tryz.func51, Tryz.ntmps51
 go_wp2_with fail
 (try rw [hX])
 clear hX
 refine HC.out.mono ?_
 rintro e1 w1 ⟨A, c, B1, d1, rfl, oI, oB, hb1⟩
 unfold stV
 dsimp only
 have kB1 := kB.below_ hb1 zB
 have zB1 := kB1.lt
 have kX1 := kX.below_ hb1 kX.lt
 clear q1 q2
 obtain ⟨-, q1, q2, -⟩ := zc11 kB1
 obtain ⟨-, qf1, qf2, -⟩ := zf kB1
 go_upto_region 4 with fail
 obtain ⟨W2, hW2⟩ : ∃ W2, (w1.setCell ⟨B, 1, none⟩ (.slice A T.refs.length c)).setCell ⟨B, 2, none⟩ (.slice B1 T.busy.length d1) = W2 := ⟨_, rfl⟩
 have K2 : WkAt W2 base B ⟨A, c, B1, d1, a2, c2, a3, c3, a4, c4, a5, c5, a6, c6, a7, c7⟩ { s with sl := T } := by rw [← hW2]; exact HK.out.slots hb1 oI oB
 have HK2 := Lib.hid K2
 have kB2 : Blk W2 B 87 #[.int .i64 s.cap, .slice A T.refs.length c, .slice B1 T.busy.length d1, .slice a2 s.wr.length c2, .slice a3 s.rd.length c3, .slice a4 s.desc.length c4, .slice a5 s.dk.cells.length c5, .slice a6 s.dk.jobs.length c6, .int .i64 s.dk.room, .int .i64 s.po.size, .slice a7 s.po.free.length c7] := K2.blk
 have B2 : Below base w W2 := by rw [← hW2]; exact (((BX.mono hbw).trans (hb1.mono hbX)).setCell (p := ⟨B, 1, none⟩) hlow _).setCell (p := ⟨B, 2, none⟩) hlow _
 have kX2 : Blk W2 w.heap.size 38 (zkk x.c0 x.c1 x.c2 x.c3 x.c4 x.c5 x.c6 x.c7).toArray := by
  have hne : B ≠ w.heap.size := by
   intro e
   have := HK.out.blk
   rw [e] at this
   unfold Blk at this kX
   rw [kX] at this
   cases this
  rw [← hW2]
  exact (kX1.far_ (p := ⟨B, 1, none⟩) hne.symm _).far_ (p := ⟨B, 2, none⟩) hne.symm _
 rw [hW2]
 clear hW2 K2 q1 q2 qf1 qf2 hb1 oI oB kB1 kX1
 have zB2 := kB2.lt
 have hb2 : base ≤ W2.heap.size := by omega
 have hD : ∀ V, Below W2.heap.size W2 V → _ := fun V hV => dWrite_any a5 a6 c5 c6 s.dk i f x V (HK2.out.own.o5.sr.ext hV) (HK2.out.own.o6.sr.ext hV) f5 f6
 rw [H2.out] at hD
 have HD4 := Lib.hid hD
 clear hD
 refine zrg [0, 0, 0, 0, 0, 1, 0, 0, 1, 2, 0, 0, 0, 0, 0, 0, 3, 0] [[], [], [], [], [], [], [], [], [], [], [9], [10], [10], [], [], [], [], [12]] [.is ?_, .is ?_, .is ?_, .is ?_, .is ?_, .kn ?_, .is ?_, .is ?_, .kn ?_, .has (DkF D), .fn [9] fst_, .fn [10] (fun l => tupAt (fst_ l) 0), .fn [10] (fun l => tupAt (fst_ l) 1), .is ?_, .is ?_, .is ?_, .late, .fn [12] fst_] [16] (lts_is (lts_is (lts_is (lts_is (lts_is (lts_kn (lts_is (lts_is (lts_kn (lts_has (DkF.lasts D) (lts_fn (lts_fn (lts_fn (lts_is (lts_is (lts_is (lts_late (lts_fn lts_nil)))))))))))))))))) (fun W0 hb0 hz0 => ?_)
 rotate_left 12
 have kW := kB2.below_ hb0 kB2.lt
 have kY := kX2.below_ hb0 kX2.lt
 have zW := kW.lt
 have zY := kY.lt
 obtain ⟨-, -, -, -, -, -, p6, p7, p8, -⟩ := zc11 kW
 obtain ⟨y0, y1, y2, y3, y4, y5, y6, y7⟩ := zc8 kY
 refine zqp ?_
 refine zqp ?_
 refine zqp ?_
 refine zqp ?_
 refine zqp ?_
 refine zqT (fun w hbw hd => ?_) ?_
 ·have r6 := cell_keep hbw p6 zW
  have r7 := cell_keep hbw p7 zW
  have r8 := cell_keep hbw p8 zW
  exact zgs
 refine zqp ?_
 refine zqp ?_
 refine zqT (fun w hbw hd => ?_) ?_
 ·have r0 := cell_keep hbw y0 zY
  have r1 := cell_keep hbw y1 zY
  have r2 := cell_keep hbw y2 zY
  have r3 := cell_keep hbw y3 zY
  have r4 := cell_keep hbw y4 zY
  have r5 := cell_keep hbw y5 zY
  have r6 := cell_keep hbw y6 zY
  have r7 := cell_keep hbw y7 zY
  exact zgs
 refine zqh (fun w hbw hd K Q' hK => ?_) (fun vwd9 => ?_)
 ·clear hd
  go_simp
  refine (HD4.out _ (hb0.trans (hbw.mono hb0.size))).mono ?_
  rintro e y ⟨A6, d6, A7, d7, rfl, oC, oJ, hy⟩
  go_wp2_with fail
  exact hK.out (.tuple #[dkV A6 d6 A7 d7 D, .int .i64 0]) _ _ zpt zbm ⟨A6, d6, A7, d7, rfl, oC, oJ⟩
 refine zqf (vwd9) ?_
 refine zqF (tupAt (vwd9) 0) (fun w0 hd w => ?_) ?_
 ·obtain ⟨_, _, A6, d6, A7, d7, rfl, _⟩ : ∃ lo hi, DkF D vwd9 lo hi w0 := hd 9 _ _ (by kernel_rfl) rfl rfl
  exact zsr
 refine zqF (tupAt (vwd9) 1) (fun w0 hd w => ?_) ?_
 ·obtain ⟨_, _, A6, d6, A7, d7, rfl, _⟩ : ∃ lo hi, DkF D vwd9 lo hi w0 := hd 9 _ _ (by kernel_rfl) rfl rfl
  exact zsr
 refine zqp ?_
 refine zqp ?_
 refine zqp ?_
 refine zql ?_
 refine zqf (tupAt (vwd9) 1) ?_
 refine chn_end (fun wz lo hi hbz hd hR => ?_)
 obtain ⟨A6, d6, A7, d7, rfl, oC, oJ⟩ : DkF D vwd9 (lo 9) (hi 9) wz := hd 9 _ _ rfl rfl
 have r9 := (hR.2 9 _ rfl).1
 have hsz := hb0.size
 have BZ : Below W2.heap.size W2 wz := hb0.trans (hbz.mono hsz)
 have kBz := kB2.below_ BZ kB2.lt
 have zBz := kBz.lt
 clear hd hR p6 p7 p8 y0 y1 y2 y3 y4 y5 y6 y7
 obtain ⟨-, -, -, -, -, -, m6, m7, m8, -⟩ := zc11 kBz
 obtain ⟨-, -, -, -, -, -, mf6, mf7, mf8, -⟩ := zf kBz
 unfold dkV
 simp only [tupAt, List.getD_cons_succ, List.getD_cons_zero, Array.getD_eq_getD_getElem?, zy5, zy6, zy7, Option.getD_some]
 refine late_one (by simp only [zy5, zy6, zy7]; rfl) (fun K Q' hK => ?_)
 go_simp
 refine hK.out _ ?_
 clear hK K Q'
 obtain ⟨W3, hW3⟩ : ∃ W3, ((wz.setCell ⟨B, 6, none⟩ (.slice A6 D.cells.length d6)).setCell ⟨B, 7, none⟩ (.slice A7 D.jobs.length d7)).setCell ⟨B, 8, none⟩ (.int .i64 D.room) = W3 := ⟨_, rfl⟩
 have K3 : WkAt W3 base B ⟨A, c, B1, d1, a2, c2, a3, c3, a4, c4, A6, d6, A7, d7, a7, c7⟩ { s with sl := T, dk := D } := by rw [← hW3]; exact HK2.out.disk BZ (oC.base_ (by omega)) (oJ.base_ (by omega))
 have HK3 := Lib.hid K3
 have kB3 : Blk W3 B 87 #[.int .i64 s.cap, .slice A T.refs.length c, .slice B1 T.busy.length d1, .slice a2 s.wr.length c2, .slice a3 s.rd.length c3, .slice a4 s.desc.length c4, .slice A6 D.cells.length d6, .slice A7 D.jobs.length d7, .int .i64 D.room, .int .i64 s.po.size, .slice a7 s.po.free.length c7] := K3.blk
 have B3 : Below base w W3 := by rw [← hW3]; exact (((B2.trans (BZ.mono hb2)).setCell (p := ⟨B, 6, none⟩) hlow _).setCell (p := ⟨B, 7, none⟩) hlow _).setCell (p := ⟨B, 8, none⟩) hlow _
 rw [hW3]
 clear hW3 K3 m6 m7 m8 mf6 mf7 mf8 oC oJ r9 kBz
 have zB3 := kB3.lt
 have hb3 : base ≤ W3.heap.size := by omega
 obtain ⟨-, -, -, q3, -⟩ := zc11 kB3
 have hA := Add_own a2 c2 s.wr i f W3 ⟨HK3.out.own.o2.sr.sw, HK3.out.own.o2.len⟩ f2
 rw [H3.out] at hA
 have HA := Lib.hid hA
 clear hA
 go_wp2_with fail
 refine HA.out.mono ?_
 rintro e4 w4 ⟨A3, d3, rfl, hcw, hb4, hmine⟩
 dsimp only at hcw hmine
 dsimp only
 have hlen := hcw.2
 have kB4 := kB3.below_ hb4 zB3
 have zB4 := kB4.lt
 clear q3 hcw
 obtain ⟨-, -, -, q3, -⟩ := zc11 kB4
 have qf3 := kB4.frozen_ 3
 go_upto_region 10 with fail
 obtain ⟨W4, hW4⟩ : ∃ W4, w4.setCell ⟨B, 3, none⟩ (.slice A3 W.length d3) = W4 := ⟨_, rfl⟩
 have K4 : WkAt W4 base B ⟨A, c, B1, d1, A3, d3, a3, c3, a4, c4, A6, d6, A7, d7, a7, c7⟩ { s with sl := T, dk := D, wr := W } := by rw [← hW4]; exact HK3.out.writes hb4 (OwnM.of_mine hmine hlen)
 have B4 : Below base w W4 := by rw [← hW4]; exact (B3.trans (hb4.mono hb3)).setCell (p := ⟨B, 3, none⟩) hlow _
 rw [hW4]
 clear hW4 q3 qf3
 have hT := Lib.hid (take_any base B ⟨A, c, B1, d1, A3, d3, a3, c3, a4, c4, A6, d6, A7, d7, a7, c7⟩ { s with sl := T, dk := D, wr := W } W4 K4 HOK.out HFR.out f4)
 go_wp2_with fail
 refine hT.out.mono ?_
 rintro e5 w5 ⟨rfl, ⟨L5, K5⟩, hb5⟩
 have HK5 := Lib.hid K5
 clear K5 K4
 go_wp2_with fail
 refine bodyPost_ret (by simp [results, Tryz.results51, go_sem] <;> rfl) rfl ?_
 exact ⟨rfl, ⟨L5, HK5.out⟩, B4.trans hb5⟩
theorem read_work (base B : Nat) (L : Lay) (s : Swp) (n f p : Int) (w : World) (h : WkAt w base B L s) (hf : Few s) (hok : OkP s.po) {T : Sts} {D : Dsk} {d : Int} {l : List Int}
  (h1 : staT s.sl n = (T, 0)) (h2 : addD s.dk ⟨false, n, f, .zero⟩ = (D, 0)) (hfr : s.po.free = d :: l) :
  Calls Tryz.prog 90 #[.pointer (some ⟨B, 0, none⟩), .int .i64 n, .int .i64 f, .int .i64 p] w fun e w' => e = .returned (.int .i64 0) ∧ (∃ L', WkAt w' base B L' (describeW { s with sl := T, dk := D, rd := s.rd ++ [(n, f, p)] })) ∧ Below base w w' := by
 obtain ⟨a0, c0, a1, c1, a2, c2, a3, c3, a4, c4, a5, c5, a6, c6, a7, c7⟩ := L
 obtain ⟨f0, f1, f2, f3, f4, f5, f6, f7⟩ := hf
 have H1 := Lib.hid h1
 have H2 := Lib.hid h2
 have HOK := Lib.hid hok
 have HFR := Lib.hid hfr
 have hlow := h.low
 have hbw : base ≤ w.heap.size := by have := h.lt; omega
 have HK := Lib.hid h
 have kB : Blk w B 87 (zkx s a0 c0 a1 c1 a2 c2 a3 c3 a4 c4 a5 c5 a6 c6 a7 c7).toArray := h.blk
 have hC := sStart_any a0 a1 c0 c1 s.sl n w h.own.o0.sr h.own.o1.sr f0 f1
 rw [h1] at hC
 have HC := Lib.hid hC
 clear h1 h2 hok hfr h hC
 have zB := kB.lt
 obtain ⟨-, q1, q2, -⟩ := zc11 kB
 go_enter Tryz.func90, Tryz.ntmps90
 go_wp2_with fail
 refine HC.out.mono ?_
 rintro e1 w1 ⟨A, c, B1, d1, rfl, oI, oB, hb1⟩
 unfold stV
 dsimp only
 have kB1 := kB.below_ hb1 zB
 have zB1 := kB1.lt
 clear q1 q2
 obtain ⟨-, q1, q2, -⟩ := zc11 kB1
 obtain ⟨-, qf1, qf2, -⟩ := zf kB1
 go_upto_region 4 with fail
 obtain ⟨W2, hW2⟩ : ∃ W2, (w1.setCell ⟨B, 1, none⟩ (.slice A T.refs.length c)).setCell ⟨B, 2, none⟩ (.slice B1 T.busy.length d1) = W2 := ⟨_, rfl⟩
 have K2 : WkAt W2 base B ⟨A, c, B1, d1, a2, c2, a3, c3, a4, c4, a5, c5, a6, c6, a7, c7⟩ { s with sl := T } := by rw [← hW2]; exact HK.out.slots hb1 oI oB
 have HK2 := Lib.hid K2
 have kB2 : Blk W2 B 87 #[.int .i64 s.cap, .slice A T.refs.length c, .slice B1 T.busy.length d1, .slice a2 s.wr.length c2, .slice a3 s.rd.length c3, .slice a4 s.desc.length c4, .slice a5 s.dk.cells.length c5, .slice a6 s.dk.jobs.length c6, .int .i64 s.dk.room, .int .i64 s.po.size, .slice a7 s.po.free.length c7] := K2.blk
 have B2 : Below base w W2 := by rw [← hW2]; exact ((hb1.mono hbw).setCell (p := ⟨B, 1, none⟩) hlow _).setCell (p := ⟨B, 2, none⟩) hlow _
 rw [hW2]
 clear hW2 K2 q1 q2 qf1 qf2 hb1 oI oB kB1
 have zB2 := kB2.lt
 have hb2 : base ≤ W2.heap.size := by omega
 obtain ⟨-, -, -, -, -, -, q6, q7, q8, -⟩ := zc11 kB2
 have hD := dRead_any a5 a6 c5 c6 s.dk n f W2 HK2.out.own.o5.sr HK2.out.own.o6.sr f5 f6
 rw [H2.out] at hD
 have HD4 := Lib.hid hD
 clear hD
 go_wp2_with fail
 refine HD4.out.mono ?_
 rintro e3 w3 ⟨A6, d6, A7, d7, rfl, oC, oJ, hb3⟩
 unfold dkV
 dsimp only
 have kB3 := kB2.below_ hb3 zB2
 have zB3 := kB3.lt
 clear q6 q7 q8
 obtain ⟨-, -, -, -, -, -, q6, q7, q8, -⟩ := zc11 kB3
 obtain ⟨-, -, -, -, -, -, qf6, qf7, qf8, -⟩ := zf kB3
 go_upto_region 7 with fail
 obtain ⟨W3, hW3⟩ : ∃ W3, ((w3.setCell ⟨B, 6, none⟩ (.slice A6 D.cells.length d6)).setCell ⟨B, 7, none⟩ (.slice A7 D.jobs.length d7)).setCell ⟨B, 8, none⟩ (.int .i64 D.room) = W3 := ⟨_, rfl⟩
 have K3 : WkAt W3 base B ⟨A, c, B1, d1, a2, c2, a3, c3, a4, c4, A6, d6, A7, d7, a7, c7⟩ { s with sl := T, dk := D } := by rw [← hW3]; exact HK2.out.disk hb3 oC oJ
 have kB4 : Blk W3 B 87 #[.int .i64 s.cap, .slice A T.refs.length c, .slice B1 T.busy.length d1, .slice a2 s.wr.length c2, .slice a3 s.rd.length c3, .slice a4 s.desc.length c4, .slice A6 D.cells.length d6, .slice A7 D.jobs.length d7, .int .i64 D.room, .int .i64 s.po.size, .slice a7 s.po.free.length c7] := K3.blk
 have B3 : Below base w W3 := by rw [← hW3]; exact (((B2.trans (hb3.mono hb2)).setCell (p := ⟨B, 6, none⟩) hlow _).setCell (p := ⟨B, 7, none⟩) hlow _).setCell (p := ⟨B, 8, none⟩) hlow _
 rw [hW3]
 clear hW3 q6 q7 q8 qf6 qf7 qf8 oC oJ hb3 kB3
 have zB4 := kB4.lt
 have hb4 : base ≤ W3.heap.size := by omega
 have BA : Below W3.heap.size W3 (W3.alloc (.cells #[.int .i64 n, .int .i64 f, .int .i64 p] 100)) := (Below.refl _ _).alloc (Nat.le_refl _) _
 have HK3 := Lib.hid (K3.ext BA)
 have HKB3 := Lib.hid (kB4.below_ BA zB4)
 have HNN := Lib.hid (HK3.out.own.o3.notT HK3.out.blk (by decide))
 clear K3
 obtain ⟨-, -, -, -, q4, -⟩ := zc11 kB4
 go_upto_region 8 with (at_builtin; refine wpList_appE2 rdE rfl (.tmp 49) (.tmp 54) _ rfl rfl _ base (Nat.le_trans hb4 BA.size) a3 c3 s.rd.length s.rd rfl HK3.out.own.o3 (some ⟨W3.heap.size, 0, none⟩) 1 1 [(n, f, p)] rfl (SR.of_blk (E := rdE) (l := [(n, f, p)]) (t := 100) (Blk.new_ rfl rfl)) (Nat.zero_lt_one) (by show s.rd.length + 1 ≤ 10000; omega) rfl rfl ?_; rw [show (s.rd ++ [(n, f, p)]).length = s.rd.length + 1 from by simp]; intro A5 cc5 w5 hO5 hb5 hk5 hn5; have kB5 := hk5.blk HKB3.out HNN.out; have zB5 := kB5.lt; have qq5 : w5.cell? ⟨B, 4, none⟩ = some (.slice a3 s.rd.length c3) := (by simpa using kB5.cell_ 4); have qqf5 := kB5.frozen_ 4)
 obtain ⟨W5, hW5⟩ : ∃ W5, w5.setCell ⟨B, 4, none⟩ (.slice A5 (s.rd.length + 1) cc5) = W5 := ⟨_, rfl⟩
 have K5 : WkAt W5 base B ⟨A, c, B1, d1, a2, c2, A5, cc5, a4, c4, A6, d6, A7, d7, a7, c7⟩ { s with sl := T, dk := D, rd := s.rd ++ [(n, f, p)] } := by
  have := HK3.out.reads hb5 hk5 hO5
  rw [show (s.rd ++ [(n, f, p)]).length = s.rd.length + 1 from by simp, hW5] at this
  exact this
 have B5 : Below base w W5 := by rw [← hW5]; exact ((B3.trans (BA.mono hb4)).trans hb5).setCell (p := ⟨B, 4, none⟩) hlow _
 have hT := Lib.hid (take_any base B ⟨A, c, B1, d1, a2, c2, A5, cc5, a4, c4, A6, d6, A7, d7, a7, c7⟩ { s with sl := T, dk := D, rd := s.rd ++ [(n, f, p)] } W5 K5 HOK.out HFR.out f4)
 rw [hW5]
 clear hW5 K5 kB5 qq5 qqf5 hO5 hb5 hk5 hn5
 go_wp2_with fail
 refine hT.out.mono ?_
 rintro e6 w6 ⟨rfl, ⟨L5, K6⟩, hb6⟩
 have HK6 := Lib.hid K6
 clear K6
 go_wp2_with fail
 go_ret
 exact ⟨rfl, ⟨L5, HK6.out⟩, B5.trans hb6⟩
theorem WriteOut_any (L : Lay) (s : Swp) (f r : Int) (x : Ct) (w : World) (h : SwA w L s) (hz : TZ w) :
  Calls Tryz.prog 16 #[swV L s, .int .i64 f, .int .i64 r, ctV x] w (SwPost (wrtW s f r x).1 [.int .i64 (wrtW s f r x).2.1, .int .i64 (wrtW s f r x).2.2] w) := by
 obtain ⟨a0, c0, a1, c1, a2, c2, a3, c3, a4, c4, a5, c5, a6, c6, a7, c7⟩ := L
 have HA := Lib.hid h
 have HZ := Lib.hid hz
 have HW0 : 0 < w.heap.size := hz.pos
 obtain ⟨Q, hQ⟩ : ∃ Q, wrtW s f r x = Q := ⟨_, rfl⟩
 rw [hQ]
 have HQ := Lib.hid hQ
 clear hQ h hz
 unfold swV swC ctV ctC
 obtain ⟨X, hX⟩ : ∃ X, ((w.alloc (.cells (zkx s a0 c0 a1 c1 a2 c2 a3 c3 a4 c4 a5 c5 a6 c6 a7 c7).toArray 35)).alloc (.cells (zkk x.c0 x.c1 x.c2 x.c3 x.c4 x.c5 x.c6 x.c7).toArray 38)).alloc (.cells zkz.toArray 35) = X := ⟨_, rfl⟩
 have kX : Blk X w.heap.size 35 (zkx s a0 c0 a1 c1 a2 c2 a3 c3 a4 c4 a5 c5 a6 c6 a7 c7).toArray := by rw [← hX]; exact ((Blk.new_ rfl rfl).alloc_ _).alloc_ _
 have kC : Blk X (w.heap.size + 1) 38 (zkk x.c0 x.c1 x.c2 x.c3 x.c4 x.c5 x.c6 x.c7).toArray := by rw [← hX]; exact (Blk.new_ (by simp) rfl : Blk _ (w.heap.size + 1) _ _).alloc_ _
 have kR : Blk X (w.heap.size + 2) 35 zkz.toArray := by rw [← hX]; exact Blk.new_ (by simp) rfl
 have BX : Below w.heap.size w X := by rw [← hX]; exact zbl
 obtain ⟨z, hzz⟩ : ∃ z, chkW s = z := ⟨_, rfl⟩
 have HZZ := Lib.hid hzz
 have hC := wCheck_any ⟨a0, c0, a1, c1, a2, c2, a3, c3, a4, c4, a5, c5, a6, c6, a7, c7⟩ s X (HA.out.ext BX) (HZ.out.ext HW0 BX)
 rw [hzz] at hC
 have HC := Lib.hid hC
 clear hC hzz
 have zkX := kX.lt
 obtain ⟨q0, q1, q2, q3, q4, q5, q6, q7, q8, q9, q10⟩ := zc11 kX
 go_enter Tryz.func16, Tryz.ntmps16
 go_wp2_with fail
 (try rw [hX])
 clear hX
 refine HC.out.mono ?_
 rintro e1 w1 ⟨rfl, hb1⟩
 have B1 := zbt BX hb1
 replace kX := kX.below_ hb1 kX.lt
 replace kC := kC.below_ hb1 kC.lt
 replace kR := kR.below_ hb1 kR.lt
 clear hb1
 clear zkX q0 q1 q2 q3 q4 q5 q6 q7 q8 q9 q10
 by_cases z0 : z = 0
 ·subst z0
  have HOK : Hid (OkS s) := chkW_ok.1 HZZ.out
  cases d1 : decide (0 ≤ f ∧ f < 256) with
  | false =>
   have HE : Hid (Q = (.zero, 0, 2)) := by show _ = _; rw [← HQ.out]; unfold wrtW frW; rw [HZZ.out, if_neg (by simp), d1]; rfl
   have ztR := kR.lt
   obtain ⟨t0, t1, t2, t3, t4, t5, t6, t7, t8, t9, t10⟩ := zc11 kR
   obtain ⟨tf0, tf1, tf2, tf3, tf4, tf5, tf6, tf7, tf8, tf9, tf10, -⟩ := zf kR
   go_wp2_with (go_at_call 48; refine (swFrame_b _ _ d1 _).mono ?_; rintro e w' ⟨rfl, rfl⟩)
   obtain ⟨W, hW⟩ : ∃ W, setN w1 (w.heap.size + 2) 0 zkz = W := ⟨_, rfl⟩
   have hWn := zs11 hW
   have kW := zsw hW kR
   have bW := zbw hW B1 (by omega)
   rw [hWn]
   clear hWn hW t0 tf0 t1 tf1 t2 tf2 t3 tf3 t4 tf4 t5 tf5 t6 tf6 t7 tf7 t8 tf8 t9 tf9 t10 tf10
   refine bodyPost_ret (by simp [results, Tryz.results16, go_sem, zc11 kW] <;> rfl) rfl ?_
   rw [HE.out]
   exact ⟨.zero, rfl, SwO.zero, bW⟩
  | true =>
   have HD1 : Hid (frW f = true) := d1
   by_cases r0 : r < 1
   ·have HE : Hid (Q = (.zero, 0, 15)) := by show _ = _; rw [← HQ.out]; unfold wrtW; rw [HZZ.out, if_neg (by simp), HD1.out, if_neg (by simp), if_pos (.inl r0)]
    have r0b : decide (r < 1) = true := by simpa using r0
    clear r0
    have ztR := kR.lt
    obtain ⟨t0, t1, t2, t3, t4, t5, t6, t7, t8, t9, t10⟩ := zc11 kR
    obtain ⟨tf0, tf1, tf2, tf3, tf4, tf5, tf6, tf7, tf8, tf9, tf10, -⟩ := zf kR
    go_wp2_with (go_at_call 48; refine (swFrame_b _ _ d1 _).mono ?_; rintro e w' ⟨rfl, rfl⟩)
    obtain ⟨W, hW⟩ : ∃ W, setN w1 (w.heap.size + 2) 0 zkz = W := ⟨_, rfl⟩
    have hWn := zs11 hW
    have kW := zsw hW kR
    have bW := zbw hW B1 (by omega)
    rw [hWn]
    clear hWn hW t0 tf0 t1 tf1 t2 tf2 t3 tf3 t4 tf4 t5 tf5 t6 tf6 t7 tf7 t8 tf8 t9 tf9 t10 tf10
    refine bodyPost_ret (by simp [results, Tryz.results16, go_sem, zc11 kW] <;> rfl) rfl ?_
    rw [HE.out]
    exact ⟨.zero, rfl, SwO.zero, bW⟩
   ·have r0b : decide (r < 1) = false := by simpa using r0
    by_cases r1 : 512 < r
    ·have HE : Hid (Q = (.zero, 0, 15)) := by show _ = _; rw [← HQ.out]; unfold wrtW; rw [HZZ.out, if_neg (by simp), HD1.out, if_neg (by simp), if_pos (.inr r1)]
     have r1b : decide (r > 512) = true := by simpa using r1
     clear r0 r1
     have ztR := kR.lt
     obtain ⟨t0, t1, t2, t3, t4, t5, t6, t7, t8, t9, t10⟩ := zc11 kR
     obtain ⟨tf0, tf1, tf2, tf3, tf4, tf5, tf6, tf7, tf8, tf9, tf10, -⟩ := zf kR
     go_wp2_with (go_at_call 48; refine (swFrame_b _ _ d1 _).mono ?_; rintro e w' ⟨rfl, rfl⟩)
     obtain ⟨W, hW⟩ : ∃ W, setN w1 (w.heap.size + 2) 0 zkz = W := ⟨_, rfl⟩
     have hWn := zs11 hW
     have kW := zsw hW kR
     have bW := zbw hW B1 (by omega)
     rw [hWn]
     clear hWn hW t0 tf0 t1 tf1 t2 tf2 t3 tf3 t4 tf4 t5 tf5 t6 tf6 t7 tf7 t8 tf8 t9 tf9 t10 tf10
     refine bodyPost_ret (by simp [results, Tryz.results16, go_sem, zc11 kW] <;> rfl) rfl ?_
     rw [HE.out]
     exact ⟨.zero, rfl, SwO.zero, bW⟩
    ·have r1b : decide (r > 512) = false := by simpa using r1
     have HR : Hid (1 ≤ r ∧ r ≤ 512) := ⟨by omega, by omega⟩
     have HR2 : Hid (¬ (r < 1 ∨ 512 < r)) := fun h => h.elim r0 r1
     clear r0 r1
     obtain ⟨us, hus⟩ : ∃ b, usW s f = b := ⟨_, rfl⟩
     have HUS := Lib.hid hus
     have hF := hasFrame_any ⟨a0, c0, a1, c1, a2, c2, a3, c3, a4, c4, a5, c5, a6, c6, a7, c7⟩ s f w1 (HA.out.sw.r6.ext B1) HA.out.few.f6
     rw [hus] at hF
     have HF := Lib.hid hF
     clear hF hus
     have zkX := kX.lt
     obtain ⟨q0, q1, q2, q3, q4, q5, q6, q7, q8, q9, q10⟩ := zc11 kX
     go_wp2_with (go_at_call 48; refine (swFrame_b _ _ d1 _).mono ?_; rintro e w' ⟨rfl, rfl⟩)
     refine HF.out.mono ?_
     rintro e2 w2 ⟨rfl, hb2⟩
     have B2 := zbt B1 hb2
     replace kX := kX.below_ hb2 kX.lt
     replace kC := kC.below_ hb2 kC.lt
     replace kR := kR.below_ hb2 kR.lt
     clear hb2
     clear zkX q0 q1 q2 q3 q4 q5 q6 q7 q8 q9 q10
     cases us with
     | true =>
      have HE : Hid (Q = (.zero, 0, 10)) := by show _ = _; rw [← HQ.out]; unfold wrtW; rw [HZZ.out, if_neg (by simp), HD1.out, if_neg (by simp), if_neg HR2.out, HUS.out, if_pos rfl]
      have ztR := kR.lt
      obtain ⟨t0, t1, t2, t3, t4, t5, t6, t7, t8, t9, t10⟩ := zc11 kR
      obtain ⟨tf0, tf1, tf2, tf3, tf4, tf5, tf6, tf7, tf8, tf9, tf10, -⟩ := zf kR
      go_wp2_with fail
      obtain ⟨W, hW⟩ : ∃ W, setN w2 (w.heap.size + 2) 0 zkz = W := ⟨_, rfl⟩
      have hWn := zs11 hW
      have kW := zsw hW kR
      have bW := zbw hW B2 (by omega)
      rw [hWn]
      clear hWn hW t0 tf0 t1 tf1 t2 tf2 t3 tf3 t4 tf4 t5 tf5 t6 tf6 t7 tf7 t8 tf8 t9 tf9 t10 tf10
      refine bodyPost_ret (by simp [results, Tryz.results16, go_sem, zc11 kW] <;> rfl) rfl ?_
      rw [HE.out]
      exact ⟨.zero, rfl, SwO.zero, bW⟩
     | false =>
      obtain ⟨hl, hhl⟩ : ∃ l, hinW s = l := ⟨_, rfl⟩
      have HHL := Lib.hid hhl
      have hH := hinders_any ⟨a0, c0, a1, c1, a2, c2, a3, c3, a4, c4, a5, c5, a6, c6, a7, c7⟩ s w2 (HA.out.ext B2) HOK.out
      rw [hhl] at hH
      have HH := Lib.hid hH
      clear hH hhl
      have zkX := kX.lt
      obtain ⟨q0, q1, q2, q3, q4, q5, q6, q7, q8, q9, q10⟩ := zc11 kX
      go_wp2_with fail
      refine HH.out.mono ?_
      rintro e3 w3 ⟨hA, hc, rfl, _, hb3⟩
      have B3 := zbt B2 hb3
      replace kX := kX.below_ hb3 kX.lt
      replace kC := kC.below_ hb3 kC.lt
      replace kR := kR.below_ hb3 kR.lt
      clear hb3
      clear zkX q0 q1 q2 q3 q4 q5 q6 q7 q8 q9 q10
      by_cases hn : hl = []
      ·subst hn
       obtain ⟨i, d, l, hi, _, _, _, hfr, p1, p2, p3, p4, p5⟩ := wrt_parts HOK.out x HD1.out HR.out HUS.out HHL.out
       have HE : Hid (Q = (describeW { s with sl := (witT s.sl i r true), dk := ⟨s.dk.cells, s.dk.jobs ++ [⟨true, i, f, x⟩], s.dk.room⟩, wr := s.wr ++ [((i : Int), f, 0)] }, (i : Int), 0)) := by
        show _ = _
        rw [← HQ.out]
        unfold wrtW
        rw [HZZ.out, if_neg (by simp), HD1.out, if_neg (by simp), if_neg HR2.out, HUS.out, if_neg (by simp), HHL.out, if_neg (by simp)]
        simp only [p1, p2]
       have P1 := Lib.hid p1
       have P2 := Lib.hid p2
       have P3 := Lib.hid p3
       have PF := Lib.hid hfr
       clear p1 p2 p3 p4 p5 hfr hi
       have HL := Lib.hid (load_any ⟨a0, c0, a1, c1, a2, c2, a3, c3, a4, c4, a5, c5, a6, c6, a7, c7⟩ s w3 (HA.out.sw.ext B3) HA.out.few)
       have zkX := kX.lt
       obtain ⟨q0, q1, q2, q3, q4, q5, q6, q7, q8, q9, q10⟩ := zc11 kX
       go_wp2_with fail
       refine HL.out.mono ?_
       rintro e4 w4 ⟨B, L4, rfl, K4, hb4⟩
       have HKR : w.heap.size + 2 < w3.heap.size := kR.lt
       have HK4 := Lib.hid K4
       have hWR := Lib.hid (write_any w3.heap.size B L4 s f r x w4 K4 HA.out.few HOK.out.po P1.out P2.out P3.out PF.out)
       have B4 := zbt B3 hb4
       replace kX := kX.below_ hb4 kX.lt
       replace kC := kC.below_ hb4 kC.lt
       replace kR := kR.below_ hb4 kR.lt
       clear hb4
       clear zkX q0 q1 q2 q3 q4 q5 q6 q7 q8 q9 q10
       have zC := kC.lt
       obtain ⟨y0, y1, y2, y3, y4, y5, y6, y7⟩ := zc8 kC
       clear K4
       go_wp2_with fail
       refine hWR.out.mono ?_
       rintro e5 w5 ⟨rfl, ⟨⟨b0, k0, b1, k1, b2, k2, b3, k3, b4, k4, b5, k5, b6, k6, b7, k7⟩, K5⟩, hb5⟩
       have kB5 : Blk w5 B 87 (swC ⟨b0, k0, b1, k1, b2, k2, b3, k3, b4, k4, b5, k5, b6, k6, b7, k7⟩ (describeW { s with sl := (witT s.sl i r true), dk := ⟨s.dk.cells, s.dk.jobs ++ [⟨true, i, f, x⟩], s.dk.room⟩, wr := s.wr ++ [((i : Int), f, 0)] })).toArray := K5.blk
       obtain ⟨S5, hS5⟩ : ∃ S5, describeW { s with sl := (witT s.sl i r true), dk := ⟨s.dk.cells, s.dk.jobs ++ [⟨true, i, f, x⟩], s.dk.room⟩, wr := s.wr ++ [((i : Int), f, 0)] } = S5 := ⟨_, rfl⟩
       rw [hS5] at K5 kB5 HE
       have kB6 : Blk w5 B 87 (zkx S5 b0 k0 b1 k1 b2 k2 b3 k3 b4 k4 b5 k5 b6 k6 b7 k7).toArray := kB5
       have HO5 := Lib.hid K5.own
       have kR5 := kR.below_ hb5 HKR
       have B5 : Below w.heap.size w w5 := B4.trans (hb5.mono (by have := B3.size; omega))
       clear K5 kB5 hS5 y0 y1 y2 y3 y4 y5 y6 y7
       have ztR := kR5.lt
       have ztB := kB6.lt
       obtain ⟨t0, t1, t2, t3, t4, t5, t6, t7, t8, t9, t10⟩ := zc11 kR5
       obtain ⟨tf0, tf1, tf2, tf3, tf4, tf5, tf6, tf7, tf8, tf9, tf10, -⟩ := zf kR5
       obtain ⟨u0, u1, u2, u3, u4, u5, u6, u7, u8, u9, u10⟩ := zc11 kB6
       go_wp2_with fail
       obtain ⟨W, hW⟩ : ∃ W, setN w5 (w.heap.size + 2) 0 (zkx S5 b0 k0 b1 k1 b2 k2 b3 k3 b4 k4 b5 k5 b6 k6 b7 k7) = W := ⟨_, rfl⟩
       have hWn := zs11 hW
       have kW := zsw hW kR5
       have bW := zbw hW B5 (by omega)
       have oW : SwO W w3.heap.size ⟨b0, k0, b1, k1, b2, k2, b3, k3, b4, k4, b5, k5, b6, k6, b7, k7⟩ S5 := by rw [← hW]; exact HO5.out.farN HKR _
       rw [hWn]
       clear hWn hW t0 tf0 t1 tf1 t2 tf2 t3 tf3 t4 tf4 t5 tf5 t6 tf6 t7 tf7 t8 tf8 t9 tf9 t10 tf10
       refine bodyPost_ret (by simp [results, Tryz.results16, go_sem, zc11 kW] <;> rfl) rfl ?_
       rw [HE.out]
       exact ⟨⟨b0, k0, b1, k1, b2, k2, b3, k3, b4, k4, b5, k5, b6, k6, b7, k7⟩, rfl, oW.base_ (by have := B3.size; omega), bW⟩
      ·have HE : Hid (Q = (.zero, 0, 5)) := by show _ = _; rw [← HQ.out]; unfold wrtW; rw [HZZ.out, if_neg (by simp), HD1.out, if_neg (by simp), if_neg HR2.out, HUS.out, if_neg (by simp), HHL.out, if_pos hn]
       have hnb : 0 < hl.length := List.length_pos_iff.2 hn
       clear hn
       have ztR := kR.lt
       obtain ⟨t0, t1, t2, t3, t4, t5, t6, t7, t8, t9, t10⟩ := zc11 kR
       obtain ⟨tf0, tf1, tf2, tf3, tf4, tf5, tf6, tf7, tf8, tf9, tf10, -⟩ := zf kR
       go_wp2_with fail
       obtain ⟨W, hW⟩ : ∃ W, setN w3 (w.heap.size + 2) 0 zkz = W := ⟨_, rfl⟩
       have hWn := zs11 hW
       have kW := zsw hW kR
       have bW := zbw hW B3 (by omega)
       rw [hWn]
       clear hWn hW t0 tf0 t1 tf1 t2 tf2 t3 tf3 t4 tf4 t5 tf5 t6 tf6 t7 tf7 t8 tf8 t9 tf9 t10 tf10
       refine bodyPost_ret (by simp [results, Tryz.results16, go_sem, zc11 kW] <;> rfl) rfl ?_
       rw [HE.out]
       exact ⟨.zero, rfl, SwO.zero, bW⟩
 ·have HE : Hid (Q = (.zero, 0, z)) := by show _ = _; rw [← HQ.out]; unfold wrtW; rw [HZZ.out, if_pos (by simpa using z0)]
  have zb : (z != 0) = true := by simpa using z0
  clear z0
  have ztR := kR.lt
  obtain ⟨t0, t1, t2, t3, t4, t5, t6, t7, t8, t9, t10⟩ := zc11 kR
  obtain ⟨tf0, tf1, tf2, tf3, tf4, tf5, tf6, tf7, tf8, tf9, tf10, -⟩ := zf kR
  go_wp2_with fail
  obtain ⟨W, hW⟩ : ∃ W, setN w1 (w.heap.size + 2) 0 zkz = W := ⟨_, rfl⟩
  have hWn := zs11 hW
  have kW := zsw hW kR
  have bW := zbw hW B1 (by omega)
  rw [hWn]
  clear hWn hW t0 tf0 t1 tf1 t2 tf2 t3 tf3 t4 tf4 t5 tf5 t6 tf6 t7 tf7 t8 tf8 t9 tf9 t10 tf10
  refine bodyPost_ret (by simp [results, Tryz.results16, go_sem, zc11 kW] <;> rfl) rfl ?_
  rw [HE.out]
  exact ⟨.zero, rfl, SwO.zero, bW⟩
theorem wtok_of {s : Swp} (h : OkS s) : wtok s = true := by
 unfold wtok
 rw [decide_eq_true h.wts, Bool.true_and, List.all_eq_true]
 intro x hx
 simpa using h.wtr x hx
theorem ask_any (L : Lay) (s : Swp) (n p : Int) (w : World) (h : SwA w L s) (hok : OkS s) : Calls Tryz.prog 89 #[swV L s, .int .i64 n, .int .i64 p] w fun e w' => e = .returned (.int .i64 (askW s n p)) ∧ Below w.heap.size w w' := by
 obtain ⟨a0, c0, a1, c1, a2, c2, a3, c3, a4, c4, a5, c5, a6, c6, a7, c7⟩ := L
 have HA := Lib.hid h
 have HOK := Lib.hid hok
 obtain ⟨R, hR⟩ : ∃ R, askW s n p = R := ⟨_, rfl⟩
 rw [hR]
 have HR := Lib.hid hR
 clear hR h hok
 unfold swV swC
 obtain ⟨X, hX⟩ : ∃ X, w.alloc (.cells (zkx s a0 c0 a1 c1 a2 c2 a3 c3 a4 c4 a5 c5 a6 c6 a7 c7).toArray 35) = X := ⟨_, rfl⟩
 have kX : Blk X w.heap.size 35 (zkx s a0 c0 a1 c1 a2 c2 a3 c3 a4 c4 a5 c5 a6 c6 a7 c7).toArray := by rw [← hX]; exact zbk
 have BX : Below w.heap.size w X := by rw [← hX]; exact zbl
 have zkX := kX.lt
 obtain ⟨q0, q1, q2, q3, q4, q5, q6, q7, q8, q9, q10⟩ := zc11 kX
 by_cases n0 : n < 0
 ·have HE : Hid (R = 2) := by show _ = _; rw [← HR.out]; unfold askW; rw [if_pos (.inl n0)]
  have n0b : decide (n < 0) = true := by simpa using n0
  clear n0
  go_enter Tryz.func89, Tryz.ntmps89
  go_wp2_with fail
  go_ret
  exact ⟨by rw [HE.out]; rfl, BX⟩
 ·have n0b : decide (n < 0) = false := by simpa using n0
  by_cases n1 : (s.sl.refs.length : Int) ≤ n
  ·have HE : Hid (R = 2) := by show _ = _; rw [← HR.out]; unfold askW; rw [if_pos (.inr (.inl n1))]
   have n1b : decide (n ≥ (s.sl.refs.length : Int)) = true := by simpa using n1
   clear n0 n1
   go_enter Tryz.func89, Tryz.ntmps89
   go_wp2_with fail
   go_ret
   exact ⟨by rw [HE.out]; rfl, BX⟩
  ·have n1b : decide (n ≥ (s.sl.refs.length : Int)) = false := by simpa using n1
   cases d1 : decide (1 ≤ p ∧ p ≤ 8) with
   | false =>
    have HE : Hid (R = 2) := by
     show _ = _; rw [← HR.out]; unfold askW
     have := of_decide_eq_false d1
     rw [if_pos (.inr (.inr (by omega)))]
    clear n0 n1
    go_enter Tryz.func89, Tryz.ntmps89
    go_wp2_with (go_at_call 97; refine (swProc_b _ _ d1 _).mono ?_; rintro e w' ⟨rfl, rfl⟩)
    go_ret
    exact ⟨by rw [HE.out]; rfl, BX⟩
   | true =>
    have hp : 1 ≤ p ∧ p ≤ 8 := of_decide_eq_true d1
    have HN : Hid (¬ (n < 0 ∨ (s.sl.refs.length : Int) ≤ n ∨ p < 1 ∨ 8 < p)) := fun h => by omega
    obtain ⟨k, rfl⟩ : ∃ k : Nat, n = k := ⟨n.toNat, by omega⟩
    have hk : k < s.sl.refs.length := by omega
    have HWF : Hid ((Lit.int .i64 p).wf = true) := wf_i (by omega)
    have n1c : decide (s.sl.refs.length ≤ k) = false := decide_eq_false (by omega)
    clear n0 n1 hp
    go_enter Tryz.func89, Tryz.ntmps89
    go_wp2_with (go_at_call 97; refine (swProc_b _ _ d1 _).mono ?_; rintro e w' ⟨rfl, rfl⟩)
    (try rw [hX])
    clear hX n0b n1b n1c
    refine (waiting_any ⟨a0, c0, a1, c1, a2, c2, a3, c3, a4, c4, a5, c5, a6, c6, a7, c7⟩ s X (HA.out.sw.r2.ext BX) (HA.out.sw.r3.ext BX) HOK.out.wr HA.out.wf HA.out.few.f3).mono ?_
    rintro e1 w1 ⟨hb1, ⟨_, M, m, rfl, hM, hMl⟩ | ⟨hw, _⟩⟩
    ·have _hx := HA
     have B1 := zbt BX hb1
     replace kX := kX.below_ hb1 kX.lt
     clear hb1
     clear zkX q0 q1 q2 q3 q4 q5 q6 q7 q8 q9 q10
     obtain ⟨tw, htw⟩ : ∃ b, (lkV (wtV s) p).isSome = b := ⟨_, rfl⟩
     obtain ⟨⟨y0, y1⟩, hy⟩ : ∃ y, (lkV (wtV s) p).getD (false, 0) = y := ⟨_, rfl⟩
     have hlk := wtT_look hM p HWF.out hy htw
     have HTW : Hid (((wtW s).any fun x => decide (x.1 = p)) = tw) := by show _ = _; rw [any_wtW, htw]
     clear htw hy hM
     have BW : Below w.heap.size w (w1.alloc (.cells #[.bool y0, .int .i64 y1] 128)) := B1.alloc B1.size _
     cases tw with
     | true =>
      have HE : Hid (R = 7) := by show _ = _; rw [← HR.out]; unfold askW; rw [if_neg HN.out, HTW.out, if_pos rfl]
      go_wp2_with fail
      go_ret
      exact ⟨by rw [HE.out]; rfl, BW⟩
     | false =>
      go_upto_region 7 with fail
      obtain ⟨W2, hW2⟩ : ∃ W2, w1.alloc (.cells #[.bool y0, .int .i64 y1] 128) = W2 := ⟨_, rfl⟩
      rw [hW2] at BW
      have kX2 : Blk W2 w.heap.size 35 (zkx s a0 c0 a1 c1 a2 c2 a3 c3 a4 c4 a5 c5 a6 c6 a7 c7).toArray := by rw [← hW2]; exact kX.alloc_ _
      obtain ⟨b, off, x, rfl, hbl, hx, hc⟩ := (HA.out.sw.r0.ext BW).at_ hk
      have HX : Hid (refT s.sl k = x) := by show _ = _; unfold refT; rw [List.getD_eq_getElem?_getD, hx]; rfl
      have cf : W2.cell? ⟨b, off + k, none⟩ = some (.int .i64 x) := by
       have := hc 0 _ rfl
       rwa [show off + k * intE.sz + 0 = off + k from by show off + k * 1 + 0 = _; omega] at this
      have zX2 := kX2.lt
      have y1 := zc kX2 1
      have i1 : (k : Int) < s.sl.refs.length := by omega
      (try rw [hW2])
      clear hW2 hlk hx hc
      by_cases x0 : x = 0
      ·have HE : Hid (R = 9) := by show _ = _; rw [← HR.out]; unfold askW; rw [if_neg HN.out, HTW.out, if_neg (by simp), Int.toNat_natCast, HX.out, if_pos x0]
       have x0b : (x == 0) = true := by simpa using x0
       clear x0
       go_wp2_with fail
       go_ret
       exact ⟨by rw [HE.out]; rfl, BW⟩
      ·have HE : Hid (R = 0) := by show _ = _; rw [← HR.out]; unfold askW; rw [if_neg HN.out, HTW.out, if_neg (by simp), Int.toNat_natCast, HX.out, if_neg x0]
       have x0b : (x == 0) = false := by simpa using x0
       clear x0
       go_wp2_with fail
       go_ret
       exact ⟨by rw [HE.out]; rfl, BW⟩
    ·rw [wtok_of HOK.out] at hw
     cases hw
def hinE (s : Swp) : List Int × Int := if chkW s ≠ 0 then ([], chkW s) else (hinW s, 0)
def HiPost (R : List Int × Int) (w : World) (e : Ending) (w' : World) : Prop := ∃ A c, e = .returned (.tuple #[.slice A R.1.length c, .int .i64 R.2]) ∧ SR intE w' A R.1 ∧ Below w.heap.size w w'
theorem Hinders_any (L : Lay) (s : Swp) (w : World) (h : SwA w L s) (hz : TZ w) : Calls Tryz.prog 14 #[swV L s] w (HiPost (hinE s) w) := by
 obtain ⟨a0, c0, a1, c1, a2, c2, a3, c3, a4, c4, a5, c5, a6, c6, a7, c7⟩ := L
 have HA := Lib.hid h
 have HZ := Lib.hid hz
 have HW0 : 0 < w.heap.size := hz.pos
 clear h hz
 unfold swV swC
 obtain ⟨X, hX⟩ : ∃ X, w.alloc (.cells (zkx s a0 c0 a1 c1 a2 c2 a3 c3 a4 c4 a5 c5 a6 c6 a7 c7).toArray 35) = X := ⟨_, rfl⟩
 have kX : Blk X w.heap.size 35 (zkx s a0 c0 a1 c1 a2 c2 a3 c3 a4 c4 a5 c5 a6 c6 a7 c7).toArray := by rw [← hX]; exact zbk
 have BX : Below w.heap.size w X := by rw [← hX]; exact zbl
 obtain ⟨z, hzz⟩ : ∃ z, chkW s = z := ⟨_, rfl⟩
 have HZZ := Lib.hid hzz
 have hC := wCheck_any ⟨a0, c0, a1, c1, a2, c2, a3, c3, a4, c4, a5, c5, a6, c6, a7, c7⟩ s X (HA.out.ext BX) (HZ.out.ext HW0 BX)
 rw [hzz] at hC
 have HC := Lib.hid hC
 clear hC hzz
 have zkX := kX.lt
 obtain ⟨q0, q1, q2, q3, q4, q5, q6, q7, q8, q9, q10⟩ := zc11 kX
 go_enter Tryz.func14, Tryz.ntmps14
 go_wp2_with fail
 (try rw [hX])
 clear hX
 refine HC.out.mono ?_
 rintro e1 w1 ⟨rfl, hb1⟩
 have B1 := zbt BX hb1
 replace kX := kX.below_ hb1 kX.lt
 clear hb1
 clear zkX q0 q1 q2 q3 q4 q5 q6 q7 q8 q9 q10
 by_cases z0 : z = 0
 ·subst z0
  have HOK : Hid (OkS s) := chkW_ok.1 HZZ.out
  have zkX := kX.lt
  obtain ⟨q0, q1, q2, q3, q4, q5, q6, q7, q8, q9, q10⟩ := zc11 kX
  go_wp2_with fail
  refine (hinders_any ⟨a0, c0, a1, c1, a2, c2, a3, c3, a4, c4, a5, c5, a6, c6, a7, c7⟩ s w1 (HA.out.ext B1) HOK.out).mono ?_
  rintro e2 w2 ⟨A, c, rfl, hS, hb2⟩
  have HS2 := Lib.hid hS
  clear hS
  go_wp2_with fail
  refine bodyPost_ret (by simp [results, Tryz.results14, go_sem] <;> rfl) rfl ?_
  have e : hinE s = (hinW s, 0) := by unfold hinE; rw [HZZ.out]; rfl
  rw [e]
  exact ⟨A, c, rfl, HS2.out, B1.trans (hb2.mono B1.size)⟩
 ·have zb : (z != 0) = true := by simpa using z0
  have e : hinE s = ([], z) := by unfold hinE; rw [HZZ.out, if_pos z0]
  have HE := Lib.hid e
  clear z0 e
  go_wp2_with fail
  refine bodyPost_ret (by simp [results, Tryz.results14, go_sem] <;> rfl) rfl ?_
  rw [HE.out]
  exact ⟨none, 0, rfl, SR.nil, B1⟩
theorem Ref_any (L : Lay) (s : Swp) (n : Int) (w : World) (h : SwA w L s) (hz : TZ w) :
  Calls Tryz.prog 26 #[swV L s, .int .i64 n] w (SwPost (addW s n).1 [.int .i64 (addW s n).2] w) := by
 obtain ⟨a0, c0, a1, c1, a2, c2, a3, c3, a4, c4, a5, c5, a6, c6, a7, c7⟩ := L
 have HA := Lib.hid h
 have HZ := Lib.hid hz
 have HW0 : 0 < w.heap.size := hz.pos
 obtain ⟨Q, hQ⟩ : ∃ Q, addW s n = Q := ⟨_, rfl⟩
 rw [hQ]
 have HQ := Lib.hid hQ
 clear hQ h hz
 unfold swV swC
 obtain ⟨X, hX⟩ : ∃ X, (w.alloc (.cells (zkx s a0 c0 a1 c1 a2 c2 a3 c3 a4 c4 a5 c5 a6 c6 a7 c7).toArray 35)).alloc (.cells zkz.toArray 35) = X := ⟨_, rfl⟩
 have kX := za1 hX
 have kR := za2 hX
 have BX : Below w.heap.size w X := by rw [← hX]; exact zbl
 obtain ⟨z, hzz⟩ : ∃ z, chkW s = z := ⟨_, rfl⟩
 have HZZ := Lib.hid hzz
 have hC := wCheck_any ⟨a0, c0, a1, c1, a2, c2, a3, c3, a4, c4, a5, c5, a6, c6, a7, c7⟩ s X (HA.out.ext BX) (HZ.out.ext HW0 BX)
 rw [hzz] at hC
 have HC := Lib.hid hC
 clear hC hzz
 have zkX := kX.lt
 obtain ⟨q0, q1, q2, q3, q4, q5, q6, q7, q8, q9, q10⟩ := zc11 kX
 go_enter Tryz.func26, Tryz.ntmps26
 go_wp2_with fail
 (try rw [hX])
 clear hX
 refine HC.out.mono ?_
 rintro e1 w1 ⟨rfl, hb1⟩
 have B1 := zbt BX hb1
 replace kX := kX.below_ hb1 kX.lt
 replace kR := kR.below_ hb1 kR.lt
 clear hb1
 clear zkX q0 q1 q2 q3 q4 q5 q6 q7 q8 q9 q10
 by_cases z0 : z = 0
 ·subst z0
  have HL := Lib.hid (load_any ⟨a0, c0, a1, c1, a2, c2, a3, c3, a4, c4, a5, c5, a6, c6, a7, c7⟩ s w1 (HA.out.sw.ext B1) HA.out.few)
  have zkX := kX.lt
  obtain ⟨q0, q1, q2, q3, q4, q5, q6, q7, q8, q9, q10⟩ := zc11 kX
  go_wp2_with fail
  refine HL.out.mono ?_
  rintro e2 w2 ⟨B, ⟨b0, k0, b1, k1, b2, k2, b3, k3, b4, k4, b5, k5, b6, k6, b7, k7⟩, rfl, K2, hb2⟩
  have HKR : w.heap.size + 1 < w1.heap.size := kR.lt
  have HK2 := Lib.hid K2
  have hBlow : w1.heap.size ≤ B := K2.low
  have kB : Blk w2 B 87 (zkx s b0 k0 b1 k1 b2 k2 b3 k3 b4 k4 b5 k5 b6 k6 b7 k7).toArray := K2.blk
  have hbL : w1.heap.size ≤ w2.heap.size := hb2.size
  have B2 := zbt B1 hb2
  replace kX := kX.below_ hb2 kX.lt
  replace kR := kR.below_ hb2 kR.lt
  clear hb2
  clear zkX q0 q1 q2 q3 q4 q5 q6 q7 q8 q9 q10
  clear K2
  obtain ⟨⟨T, zt⟩, hT⟩ : ∃ t, addT s.sl n = t := ⟨_, rfl⟩
  have HT := Lib.hid hT
  have hC := sRef_any b0 b1 k0 k1 s.sl n w2 HK2.out.own.o0.sr HK2.out.own.o1.sr HA.out.few.f0 HA.out.few.f1
  rw [hT] at hC
  have HC3 := Lib.hid hC
  clear hT hC
  have zB := kB.lt
  obtain ⟨-, u1, u2, -⟩ := zc11 kB
  go_wp2_with fail
  refine HC3.out.mono ?_
  rintro e3 w3 ⟨A, c, A1, c1', rfl, oI, oB, hb3⟩
  unfold stV
  dsimp only
  have kB3 := kB.below_ hb3 zB
  have zB3 := kB3.lt
  clear u1 u2
  obtain ⟨-, u1, u2, -⟩ := zc11 kB3
  obtain ⟨-, uf1, uf2, -⟩ := zf kB3
  go_upto_region 7 with fail
  obtain ⟨W3, hW3⟩ : ∃ W3, (w3.setCell ⟨B, 1, none⟩ (.slice A T.refs.length c)).setCell ⟨B, 2, none⟩ (.slice A1 T.busy.length c1') = W3 := ⟨_, rfl⟩
  have K3 : WkAt W3 w1.heap.size B ⟨A, c, A1, c1', b2, k2, b3, k3, b4, k4, b5, k5, b6, k6, b7, k7⟩ { s with sl := T } := by rw [← hW3]; exact HK2.out.slots hb3 oI oB
  have kR3 : Blk W3 (w.heap.size + 1) 35 zkz.toArray := by rw [← hW3]; exact ((kR.below_ hb3 kR.lt).far_ (p := ⟨B, 1, none⟩) (by show _ ≠ B; omega) _).far_ (p := ⟨B, 2, none⟩) (by show _ ≠ B; omega) _
  have B3 : Below w.heap.size w W3 := by rw [← hW3]; exact ((B2.trans (hb3.mono B2.size)).setCell (p := ⟨B, 1, none⟩) (by show w.heap.size ≤ B; have := B1.size; omega) _).setCell (p := ⟨B, 2, none⟩) (by show w.heap.size ≤ B; have := B1.size; omega) _
  rw [hW3]
  clear hW3 u1 u2 uf1 uf2 oI oB
  by_cases y0 : zt = 0
  ·subst y0
   have HE : Hid (Q = ({ s with sl := T }, 0)) := by show _ = _; rw [← HQ.out]; unfold addW; rw [HZZ.out, if_neg (by simp), HT.out]; rfl
   have kB4 : Blk W3 B 87 #[.int .i64 s.cap, .slice A T.refs.length c, .slice A1 T.busy.length c1', .slice b2 s.wr.length k2, .slice b3 s.rd.length k3, .slice b4 s.desc.length k4, .slice b5 s.dk.cells.length k5, .slice b6 s.dk.jobs.length k6, .int .i64 s.dk.room, .int .i64 s.po.size, .slice b7 s.po.free.length k7] := K3.blk
   have HO3 := Lib.hid K3.own
   clear K3
   have ztR := kR3.lt
   have ztB := kB4.lt
   obtain ⟨t0, t1, t2, t3, t4, t5, t6, t7, t8, t9, t10⟩ := zc11 kR3
   obtain ⟨tf0, tf1, tf2, tf3, tf4, tf5, tf6, tf7, tf8, tf9, tf10, -⟩ := zf kR3
   obtain ⟨u0, u1, u2, u3, u4, u5, u6, u7, u8, u9, u10⟩ := zc11 kB4
   go_wp2_with fail
   obtain ⟨W, hW⟩ : ∃ W, setN W3 (w.heap.size + 1) 0 [.int .i64 s.cap, .slice A T.refs.length c, .slice A1 T.busy.length c1', .slice b2 s.wr.length k2, .slice b3 s.rd.length k3, .slice b4 s.desc.length k4, .slice b5 s.dk.cells.length k5, .slice b6 s.dk.jobs.length k6, .int .i64 s.dk.room, .int .i64 s.po.size, .slice b7 s.po.free.length k7] = W := ⟨_, rfl⟩
   have hWn := zs11 hW
   have kW := zsw hW kR3
   have bW := zbw hW B3 (by omega)
   have oW : SwO W w1.heap.size ⟨A, c, A1, c1', b2, k2, b3, k3, b4, k4, b5, k5, b6, k6, b7, k7⟩ { s with sl := T } := by rw [← hW]; exact HO3.out.farN HKR _
   rw [hWn]
   clear hWn hW t0 tf0 t1 tf1 t2 tf2 t3 tf3 t4 tf4 t5 tf5 t6 tf6 t7 tf7 t8 tf8 t9 tf9 t10 tf10
   refine bodyPost_ret (by simp [results, Tryz.results26, go_sem, zc11 kW] <;> rfl) rfl ?_
   rw [HE.out]
   exact ⟨⟨A, c, A1, c1', b2, k2, b3, k3, b4, k4, b5, k5, b6, k6, b7, k7⟩, rfl, oW.base_ (by have := B1.size; omega), bW⟩
  ·have HE : Hid (Q = (.zero, zt)) := by show _ = _; rw [← HQ.out]; unfold addW; rw [HZZ.out, if_neg (by simp), HT.out, if_pos (by simpa using y0)]
   have yb : (zt != 0) = true := by simpa using y0
   clear y0 K3
   have ztR := kR3.lt
   obtain ⟨t0, t1, t2, t3, t4, t5, t6, t7, t8, t9, t10⟩ := zc11 kR3
   obtain ⟨tf0, tf1, tf2, tf3, tf4, tf5, tf6, tf7, tf8, tf9, tf10, -⟩ := zf kR3
   go_wp2_with fail
   obtain ⟨W, hW⟩ : ∃ W, setN W3 (w.heap.size + 1) 0 zkz = W := ⟨_, rfl⟩
   have hWn := zs11 hW
   have kW := zsw hW kR3
   have bW := zbw hW B3 (by omega)
   rw [hWn]
   clear hWn hW t0 tf0 t1 tf1 t2 tf2 t3 tf3 t4 tf4 t5 tf5 t6 tf6 t7 tf7 t8 tf8 t9 tf9 t10 tf10
   refine bodyPost_ret (by simp [results, Tryz.results26, go_sem, zc11 kW] <;> rfl) rfl ?_
   rw [HE.out]
   exact ⟨.zero, rfl, SwO.zero, bW⟩
 ·have HE : Hid (Q = (.zero, z)) := by show _ = _; rw [← HQ.out]; unfold addW; rw [HZZ.out, if_pos (by simpa using z0)]
  have zb : (z != 0) = true := by simpa using z0
  clear z0
  have ztR := kR.lt
  obtain ⟨t0, t1, t2, t3, t4, t5, t6, t7, t8, t9, t10⟩ := zc11 kR
  obtain ⟨tf0, tf1, tf2, tf3, tf4, tf5, tf6, tf7, tf8, tf9, tf10, -⟩ := zf kR
  go_wp2_with fail
  obtain ⟨W, hW⟩ : ∃ W, setN w1 (w.heap.size + 1) 0 zkz = W := ⟨_, rfl⟩
  have hWn := zs11 hW
  have kW := zsw hW kR
  have bW := zbw hW B1 (by omega)
  rw [hWn]
  clear hWn hW t0 tf0 t1 tf1 t2 tf2 t3 tf3 t4 tf4 t5 tf5 t6 tf6 t7 tf7 t8 tf8 t9 tf9 t10 tf10
  refine bodyPost_ret (by simp [results, Tryz.results26, go_sem, zc11 kW] <;> rfl) rfl ?_
  rw [HE.out]
  exact ⟨.zero, rfl, SwO.zero, bW⟩
end Go.Proofs.YthijbipidbjpfaaGreatDoor
