import Derived.Test.YthijbipidbjpfaaGreatDoorZW20
import Derived.Test.YthijbipidbjpfaaGreatDoorZW00
import Derived.Test.YthijbipidbjpfaaGreatDoorZW17
import Derived.Test.YthijbipidbjpfaaGreatDoorZW04
import Derived.Test.YthijbipidbjpfaaGreatDoorZW03
import Derived.Test.YthijbipidbjpfaaGreatDoorZW06
import Derived.Test.YthijbipidbjpfaaGreatDoorZW07
import Derived.Test.YthijbipidbjpfaaGreatDoorZW15
import Derived.Test.YthijbipidbjpfaaGreatDoorZW13
set_option linter.unusedSimpArgs false
set_option linter.unusedVariables false
set_option maxRecDepth 100000
set_option maxHeartbeats 8000000
namespace Go.Proofs.YthijbipidbjpfaaGreatDoor
open Go.RowKit Go.Maps
theorem SR.slb {w : World} {A : Option Addr} {l : List Bool} (h : SR boolE w A l) : Sl w .bool A l := fun hp => by
 obtain ⟨b, off, e, hb, hc⟩ := h (SR.len_pos hp)
 refine ⟨b, off, e, hb, fun k x hx => ?_⟩
 have hk := (List.getElem?_eq_some_iff.1 hx).1
 obtain ⟨b', off', y, e', _, hy, hcy⟩ := SR.at_ h hk
 rw [e] at e'
 injection e' with e'; injection e' with e1 e2
 subst e1 e2
 rw [hx] at hy; cases hy
 have := hcy 0 (.bool x) rfl
 simpa [boolE] using this
theorem samePool_refl (A B : Option Addr) (c d : Nat) (p : Pol) (w : World) (ha : SR intE w A p.free) (hb : SR intE w B p.free) (hl : p.free.length ≤ 1000) :
  Calls Tryz.prog 71 #[.agg #[.int .i64 p.size, .slice A p.free.length c], .agg #[.int .i64 p.size, .slice B p.free.length d]] w fun e w' => e = .returned (.bool true) ∧ Below w.heap.size w w' := by
 have HA := Lib.hid ha; have HB := Lib.hid hb
 clear ha hb
 obtain ⟨X, hX⟩ : ∃ X, (w.alloc (.cells #[.int .i64 p.size, .slice A p.free.length c] 33)).alloc (.cells #[.int .i64 p.size, .slice B p.free.length d] 33) = X := ⟨_, rfl⟩
 have kX := za1 hX
 have kY := za2 hX
 have BX := zabb hX
 have zX := kX.lt
 have zY := kY.lt
 obtain ⟨p0, p1⟩ := zc2 kX
 obtain ⟨q0, q1⟩ := zc2 kY
 have b0 : (p.size == p.size) = true := by simp
 go_enter Tryz.func71, Tryz.ntmps71
 go_wp2_with fail
 (try rw [hX])
 clear hX
 have hC := SameInts_any A B c d p.free p.free X (HA.out.ext BX).sl (HB.out.ext BX).sl (by omega) (by omega)
 rw [decide_eq_true rfl] at hC
 refine hC.mono ?_
 rintro e1 w1 ⟨rfl, hb1⟩
 go_wp2_with fail
 go_ret
 exact ⟨rfl, BX.trans (hb1.mono BX.size)⟩
theorem sameSlots_refl (A0 A1 B0 B1 : Option Addr) (c0 c1 k0 k1 : Nat) (t : Sts) (w : World) (ha : SR intE w A0 t.refs) (ha1 : SR boolE w A1 t.busy) (hb : SR intE w B0 t.refs) (hb1 : SR boolE w B1 t.busy) (hl : t.refs.length ≤ 1000) (hl1 : t.busy.length ≤ 1000) :
  Calls Tryz.prog 70 #[.agg #[.slice A0 t.refs.length c0, .slice A1 t.busy.length c1], .agg #[.slice B0 t.refs.length k0, .slice B1 t.busy.length k1]] w fun e w' => e = .returned (.bool true) ∧ Below w.heap.size w w' := by
 have HA := Lib.hid ha; have HB := Lib.hid hb; have HA1 := Lib.hid ha1; have HB1 := Lib.hid hb1
 clear ha hb ha1 hb1
 obtain ⟨X, hX⟩ : ∃ X, (w.alloc (.cells #[.slice A0 t.refs.length c0, .slice A1 t.busy.length c1] 25)).alloc (.cells #[.slice B0 t.refs.length k0, .slice B1 t.busy.length k1] 25) = X := ⟨_, rfl⟩
 have kX := za1 hX
 have kY := za2 hX
 have BX := zabb hX
 have zX := kX.lt
 have zY := kY.lt
 obtain ⟨p0, p1⟩ := zc2 kX
 obtain ⟨q0, q1⟩ := zc2 kY
 go_enter Tryz.func70, Tryz.ntmps70
 go_wp2_with fail
 (try rw [hX])
 clear hX
 have hC := SameInts_any A0 B0 c0 k0 t.refs t.refs X (HA.out.ext BX).sl (HB.out.ext BX).sl (by omega) (by omega)
 rw [decide_eq_true rfl] at hC
 refine hC.mono ?_
 rintro e1 w1 ⟨rfl, hb1⟩
 replace kX := kX.below_ hb1 kX.lt
 replace kY := kY.below_ hb1 kY.lt
 have B1_ := BX.trans (hb1.mono BX.size)
 clear p0 p1 q0 q1 zX zY hC
 have zX := kX.lt
 have zY := kY.lt
 obtain ⟨p0, p1⟩ := zc2 kX
 obtain ⟨q0, q1⟩ := zc2 kY
 go_wp2_with fail
 have hC := SameBools_any A1 B1 c1 k1 t.busy t.busy w1 (HA1.out.ext B1_).slb (HB1.out.ext B1_).slb (by omega) (by omega)
 rw [decide_eq_true rfl] at hC
 refine hC.mono ?_
 rintro e2 w2 ⟨rfl, hb2⟩
 go_wp2_with fail
 go_ret
 exact ⟨rfl, B1_.trans (hb2.mono B1_.size)⟩
theorem sameDisk_refl (A0 A1 B0 B1 : Option Addr) (c0 c1 k0 k1 : Nat) (d : Dsk) (w : World) (ha : SR ctE w A0 d.cells) (ha1 : SR jbE w A1 d.jobs) (hb : SR ctE w B0 d.cells) (hb1 : SR jbE w B1 d.jobs) (hl0 : d.cells.length ≤ 1000) (hl1 : d.jobs.length ≤ 1000) :
  Calls Tryz.prog 72 #[.agg #[.slice A0 d.cells.length c0, .slice A1 d.jobs.length c1, .int .i64 d.room], .agg #[.slice B0 d.cells.length k0, .slice B1 d.jobs.length k1, .int .i64 d.room]] w fun e w' => e = .returned (.bool true) ∧ Below w.heap.size w w' := by
 have H0 := Lib.hid ha; have H1 := Lib.hid ha1; have H2 := Lib.hid hb; have H3 := Lib.hid hb1
 clear ha hb ha1 hb1
 have r0 : (d.room != d.room) = false := by simp
 have r1 : ((d.cells.length : Int) != d.cells.length) = false := by simp
 have r2 : ((d.jobs.length : Int) != d.jobs.length) = false := by simp
 obtain ⟨X, hX⟩ : ∃ X, (w.alloc (.cells #[.slice A0 d.cells.length c0, .slice A1 d.jobs.length c1, .int .i64 d.room] 31)).alloc (.cells #[.slice B0 d.cells.length k0, .slice B1 d.jobs.length k1, .int .i64 d.room] 31) = X := ⟨_, rfl⟩
 have kX := za1 hX
 have kY := za2 hX
 have BX := zabb hX
 have zX := kX.lt
 have zY := kY.lt
 obtain ⟨p0, p1, p2⟩ := zc3 kX
 obtain ⟨q0, q1, q2⟩ := zc3 kY
 replace H0 := Lib.hid (H0.out.ext BX)
 replace H1 := Lib.hid (H1.out.ext BX)
 replace H2 := Lib.hid (H2.out.ext BX)
 replace H3 := Lib.hid (H3.out.ext BX)
 go_enter Tryz.func72, Tryz.ntmps72
 go_wp2_with fail
 (try rw [hX])
 clear hX zX zY p0 q0 p1 q1 p2 q2
 go_loopw [5] (fun i wr => ∃ k : Nat, k ≤ d.cells.length ∧ i = .int .i64 k ∧ Below X.heap.size X wr) (fun i _ => d.cells.length - (intOf i).toNat)
 case atStart => exact ⟨0, by omega, rfl, Below.refl _ _⟩
 case round =>
  obtain ⟨k, hk, rfl, hbw⟩ := hrel
  have zX := kX.lt
  have zY := kY.lt
  have zw := hbw.size
  have p0 := cell_keep hbw (show X.cell? ⟨w.heap.size, 0, none⟩ = some (.slice A0 d.cells.length c0) by simpa using kX.cell_ 0) zX
  have q0 := cell_keep hbw (show X.cell? ⟨w.heap.size + 1, 0, none⟩ = some (.slice B0 d.cells.length k0) by simpa using kY.cell_ 0) zY
  have zX2 : w.heap.size < wr.heap.size := Nat.lt_of_lt_of_le zX zw
  have zY2 : w.heap.size + 1 < wr.heap.size := Nat.lt_of_lt_of_le zY zw
  by_cases hlt : k < d.cells.length
  ·obtain ⟨b, off, y, hA, hbl, hy, hc⟩ := (H0.out.ext hbw).at_ hlt
   obtain ⟨b2, off2, y2, hA2, hbl2, hy2, hc2⟩ := (H2.out.ext hbw).at_ hlt
   obtain rfl : y = y2 := Option.some.inj (hy.symm.trans hy2)
   (try dsimp only at hA hA2)
   subst hA hA2
   obtain ⟨x0, x1, x2, x3, x4, x5, x6, x7⟩ := y
   clear hy hy2
   have i1 : (k : Int) < d.cells.length := by omega
   have e0 : wr.cell? ⟨b, off + k * 8, none⟩ = some (.int .u64 x0) := hc 0 _ rfl
   have f0 : wr.cell? ⟨b2, off2 + k * 8, none⟩ = some (.int .u64 x0) := hc2 0 _ rfl
   have e1 : wr.cell? ⟨b, off + k * 8 + 1, none⟩ = some (.int .u64 x1) := hc 1 _ rfl
   have f1 : wr.cell? ⟨b2, off2 + k * 8 + 1, none⟩ = some (.int .u64 x1) := hc2 1 _ rfl
   have e2 : wr.cell? ⟨b, off + k * 8 + 2, none⟩ = some (.int .u64 x2) := hc 2 _ rfl
   have f2 : wr.cell? ⟨b2, off2 + k * 8 + 2, none⟩ = some (.int .u64 x2) := hc2 2 _ rfl
   have e3 : wr.cell? ⟨b, off + k * 8 + 3, none⟩ = some (.int .u64 x3) := hc 3 _ rfl
   have f3 : wr.cell? ⟨b2, off2 + k * 8 + 3, none⟩ = some (.int .u64 x3) := hc2 3 _ rfl
   have e4 : wr.cell? ⟨b, off + k * 8 + 4, none⟩ = some (.int .u64 x4) := hc 4 _ rfl
   have f4 : wr.cell? ⟨b2, off2 + k * 8 + 4, none⟩ = some (.int .u64 x4) := hc2 4 _ rfl
   have e5 : wr.cell? ⟨b, off + k * 8 + 5, none⟩ = some (.int .u64 x5) := hc 5 _ rfl
   have f5 : wr.cell? ⟨b2, off2 + k * 8 + 5, none⟩ = some (.int .u64 x5) := hc2 5 _ rfl
   have e6 : wr.cell? ⟨b, off + k * 8 + 6, none⟩ = some (.int .u64 x6) := hc 6 _ rfl
   have f6 : wr.cell? ⟨b2, off2 + k * 8 + 6, none⟩ = some (.int .u64 x6) := hc2 6 _ rfl
   have e7 : wr.cell? ⟨b, off + k * 8 + 7, none⟩ = some (.int .u64 x7) := hc 7 _ rfl
   have f7 : wr.cell? ⟨b2, off2 + k * 8 + 7, none⟩ = some (.int .u64 x7) := hc2 7 _ rfl
   clear hc hc2
   have heq : Hid (∀ W, (Op.equalIn 10000 38 (.agg (zkk x0 x1 x2 x3 x4 x5 x6 x7).toArray) (.agg (zkk x0 x1 x2 x3 x4 x5 x6 x7).toArray)).run Tryz.prog W = .ok true W) := fun W => (eq_ct W ⟨x0, x1, x2, x3, x4, x5, x6, x7⟩ ⟨x0, x1, x2, x3, x4, x5, x6, x7⟩).trans (by rw [decide_eq_true rfl])
   go_wp2_with fail
   refine wp_region_chain [.is ?fsct0, .is ?fsct1, .is ?fsct2, .is ?fsct3, .is ?fsct4, .is ?fsct5, .is ?fsct6, .is ?fsct7, .is ?fsct8, .is ?fsct9, .is ?fsct10] (by kernel_rfl) (by kernel_rfl) (by kernel_rfl) (lasts_is (lasts_is (lasts_is (lasts_is (lasts_is (lasts_is (lasts_is (lasts_is (lasts_is (lasts_is (lasts_is lasts_nil))))))))))) (fun W0 hb0 hz0 => ?_)
   rotate_left 11
   replace p0 := cell_keep hb0 p0 zX2
   replace q0 := cell_keep hb0 q0 zY2
   replace e0 := cell_keep hb0 e0 hbl
   replace e1 := cell_keep hb0 e1 hbl
   replace e2 := cell_keep hb0 e2 hbl
   replace e3 := cell_keep hb0 e3 hbl
   replace e4 := cell_keep hb0 e4 hbl
   replace e5 := cell_keep hb0 e5 hbl
   replace e6 := cell_keep hb0 e6 hbl
   replace e7 := cell_keep hb0 e7 hbl
   replace f0 := cell_keep hb0 f0 hbl2
   replace f1 := cell_keep hb0 f1 hbl2
   replace f2 := cell_keep hb0 f2 hbl2
   replace f3 := cell_keep hb0 f3 hbl2
   replace f4 := cell_keep hb0 f4 hbl2
   replace f5 := cell_keep hb0 f5 hbl2
   replace f6 := cell_keep hb0 f6 hbl2
   replace f7 := cell_keep hb0 f7 hbl2
   replace hbl := Nat.lt_of_lt_of_le hbl hb0.size
   replace hbl2 := Nat.lt_of_lt_of_le hbl2 hb0.size
   replace zX2 := Nat.lt_of_lt_of_le zX2 hb0.size
   replace zY2 := Nat.lt_of_lt_of_le zY2 hb0.size
   refine zot ?_
   refine zoT (fun w hbw hd => ?_) ?_
   ·have r0 := cell_keep hbw p0 zX2
    exact zgs
   refine zot ?_
   refine zot ?_
   refine zoT (fun w hbw hd => ?_) ?_
   ·have r0 := cell_keep hbw e0 hbl
    have r1 := cell_keep hbw e1 hbl
    have r2 := cell_keep hbw e2 hbl
    have r3 := cell_keep hbw e3 hbl
    have r4 := cell_keep hbw e4 hbl
    have r5 := cell_keep hbw e5 hbl
    have r6 := cell_keep hbw e6 hbl
    have r7 := cell_keep hbw e7 hbl
    exact zgs
   refine zot ?_
   refine zoT (fun w hbw hd => ?_) ?_
   ·have r0 := cell_keep hbw q0 zY2
    exact zgs
   refine zot ?_
   refine zot ?_
   refine zoT (fun w hbw hd => ?_) ?_
   ·have r0 := cell_keep hbw f0 hbl2
    have r1 := cell_keep hbw f1 hbl2
    have r2 := cell_keep hbw f2 hbl2
    have r3 := cell_keep hbw f3 hbl2
    have r4 := cell_keep hbw f4 hbl2
    have r5 := cell_keep hbw f5 hbl2
    have r6 := cell_keep hbw f6 hbl2
    have r7 := cell_keep hbw f7 hbl2
    exact zgs
   refine zoT (fun w hbw hd => ?_) ?_
   ·have hq := heq.out w
    exact zgs
   refine chain_end (fun wz hbz hd => ?_)
   go_wp2_with fail
   have bR : Below X.heap.size X wz := hbw.trans ((hb0.trans (hbz.mono hb0.size)).mono hbw.size)
   go_roundw
   case rel => exact ⟨k + 1, by omega, by go_num, bR⟩
   case measure => simp [intOf]; omega
  have i1 : ¬ ((k : Int) < d.cells.length) := by omega
  go_wp2_with fail
  obtain ⟨wr0, hwr0⟩ : ∃ V, V = wr := ⟨_, rfl⟩
  subst hwr0
  have hbw0 := hbw
  clear hbw
  have kX0 := kX.below_ hbw0 kX.lt
  have kY0 := kY.below_ hbw0 kY.lt
  replace H1 := Lib.hid (H1.out.ext hbw0)
  replace H3 := Lib.hid (H3.out.ext hbw0)
  clear i1 p0 q0 zX zY
  go_loopw [6] (fun i wr => ∃ k : Nat, k ≤ d.jobs.length ∧ i = .int .i64 k ∧ Below wr0.heap.size wr0 wr) (fun i _ => d.jobs.length - (intOf i).toNat)
  case atStart => exact ⟨0, by omega, rfl, Below.refl _ _⟩
  case round =>
   obtain ⟨k, hk, rfl, hbw⟩ := hrel
   have zX := kX0.lt
   have zY := kY0.lt
   have zw := hbw.size
   have p1 := cell_keep hbw (show wr0.cell? ⟨w.heap.size, 1, none⟩ = some (.slice A1 d.jobs.length c1) by simpa using kX0.cell_ 1) zX
   have q1 := cell_keep hbw (show wr0.cell? ⟨w.heap.size + 1, 1, none⟩ = some (.slice B1 d.jobs.length k1) by simpa using kY0.cell_ 1) zY
   have zX2 : w.heap.size < wr.heap.size := Nat.lt_of_lt_of_le zX zw
   have zY2 : w.heap.size + 1 < wr.heap.size := Nat.lt_of_lt_of_le zY zw
   by_cases hlt : k < d.jobs.length
   ·obtain ⟨b, off, y, hA, hbl, hy, hc⟩ := (H1.out.ext hbw).at_ hlt
    obtain ⟨b2, off2, y2, hA2, hbl2, hy2, hc2⟩ := (H3.out.ext hbw).at_ hlt
    obtain rfl : y = y2 := Option.some.inj (hy.symm.trans hy2)
    (try dsimp only at hA hA2)
    subst hA hA2
    obtain ⟨jw, js, jf, ⟨x0, x1, x2, x3, x4, x5, x6, x7⟩⟩ := y
    clear hy hy2
    have i1 : (k : Int) < d.jobs.length := by omega
    have e0 : wr.cell? ⟨b, off + k * 11, none⟩ = some (.bool jw) := hc 0 _ rfl
    have f0 : wr.cell? ⟨b2, off2 + k * 11, none⟩ = some (.bool jw) := hc2 0 _ rfl
    have e1 : wr.cell? ⟨b, off + k * 11 + 1, none⟩ = some (.int .i64 js) := hc 1 _ rfl
    have f1 : wr.cell? ⟨b2, off2 + k * 11 + 1, none⟩ = some (.int .i64 js) := hc2 1 _ rfl
    have e2 : wr.cell? ⟨b, off + k * 11 + 2, none⟩ = some (.int .i64 jf) := hc 2 _ rfl
    have f2 : wr.cell? ⟨b2, off2 + k * 11 + 2, none⟩ = some (.int .i64 jf) := hc2 2 _ rfl
    have e3 : wr.cell? ⟨b, off + k * 11 + 3, none⟩ = some (.int .u64 x0) := hc 3 _ rfl
    have f3 : wr.cell? ⟨b2, off2 + k * 11 + 3, none⟩ = some (.int .u64 x0) := hc2 3 _ rfl
    have e4 : wr.cell? ⟨b, off + k * 11 + 4, none⟩ = some (.int .u64 x1) := hc 4 _ rfl
    have f4 : wr.cell? ⟨b2, off2 + k * 11 + 4, none⟩ = some (.int .u64 x1) := hc2 4 _ rfl
    have e5 : wr.cell? ⟨b, off + k * 11 + 5, none⟩ = some (.int .u64 x2) := hc 5 _ rfl
    have f5 : wr.cell? ⟨b2, off2 + k * 11 + 5, none⟩ = some (.int .u64 x2) := hc2 5 _ rfl
    have e6 : wr.cell? ⟨b, off + k * 11 + 6, none⟩ = some (.int .u64 x3) := hc 6 _ rfl
    have f6 : wr.cell? ⟨b2, off2 + k * 11 + 6, none⟩ = some (.int .u64 x3) := hc2 6 _ rfl
    have e7 : wr.cell? ⟨b, off + k * 11 + 7, none⟩ = some (.int .u64 x4) := hc 7 _ rfl
    have f7 : wr.cell? ⟨b2, off2 + k * 11 + 7, none⟩ = some (.int .u64 x4) := hc2 7 _ rfl
    have e8 : wr.cell? ⟨b, off + k * 11 + 8, none⟩ = some (.int .u64 x5) := hc 8 _ rfl
    have f8 : wr.cell? ⟨b2, off2 + k * 11 + 8, none⟩ = some (.int .u64 x5) := hc2 8 _ rfl
    have e9 : wr.cell? ⟨b, off + k * 11 + 9, none⟩ = some (.int .u64 x6) := hc 9 _ rfl
    have f9 : wr.cell? ⟨b2, off2 + k * 11 + 9, none⟩ = some (.int .u64 x6) := hc2 9 _ rfl
    have e10 : wr.cell? ⟨b, off + k * 11 + 10, none⟩ = some (.int .u64 x7) := hc 10 _ rfl
    have f10 : wr.cell? ⟨b2, off2 + k * 11 + 10, none⟩ = some (.int .u64 x7) := hc2 10 _ rfl
    clear hc hc2
    have heq : Hid (∀ W, (Op.equalIn 9999 38 (.agg (zkk x0 x1 x2 x3 x4 x5 x6 x7).toArray) (.agg (zkk x0 x1 x2 x3 x4 x5 x6 x7).toArray)).run Tryz.prog W = .ok true W) := fun W => (eqIn_ct W ⟨x0, x1, x2, x3, x4, x5, x6, x7⟩ ⟨x0, x1, x2, x3, x4, x5, x6, x7⟩).trans (by rw [decide_eq_true rfl])
    go_wp2_with fail
    refine wp_region_chain [.is ?fsjb0, .is ?fsjb1, .is ?fsjb2, .is ?fsjb3, .is ?fsjb4, .is ?fsjb5, .is ?fsjb6, .is ?fsjb7, .is ?fsjb8, .is ?fsjb9, .is ?fsjb10] (by kernel_rfl) (by kernel_rfl) (by kernel_rfl) (lasts_is (lasts_is (lasts_is (lasts_is (lasts_is (lasts_is (lasts_is (lasts_is (lasts_is (lasts_is (lasts_is lasts_nil))))))))))) (fun W0 hb0 hz0 => ?_)
    rotate_left 11
    replace p1 := cell_keep hb0 p1 zX2
    replace q1 := cell_keep hb0 q1 zY2
    replace e0 := cell_keep hb0 e0 hbl
    replace e1 := cell_keep hb0 e1 hbl
    replace e2 := cell_keep hb0 e2 hbl
    replace e3 := cell_keep hb0 e3 hbl
    replace e4 := cell_keep hb0 e4 hbl
    replace e5 := cell_keep hb0 e5 hbl
    replace e6 := cell_keep hb0 e6 hbl
    replace e7 := cell_keep hb0 e7 hbl
    replace e8 := cell_keep hb0 e8 hbl
    replace e9 := cell_keep hb0 e9 hbl
    replace e10 := cell_keep hb0 e10 hbl
    replace f0 := cell_keep hb0 f0 hbl2
    replace f1 := cell_keep hb0 f1 hbl2
    replace f2 := cell_keep hb0 f2 hbl2
    replace f3 := cell_keep hb0 f3 hbl2
    replace f4 := cell_keep hb0 f4 hbl2
    replace f5 := cell_keep hb0 f5 hbl2
    replace f6 := cell_keep hb0 f6 hbl2
    replace f7 := cell_keep hb0 f7 hbl2
    replace f8 := cell_keep hb0 f8 hbl2
    replace f9 := cell_keep hb0 f9 hbl2
    replace f10 := cell_keep hb0 f10 hbl2
    replace hbl := Nat.lt_of_lt_of_le hbl hb0.size
    replace hbl2 := Nat.lt_of_lt_of_le hbl2 hb0.size
    replace zX2 := Nat.lt_of_lt_of_le zX2 hb0.size
    replace zY2 := Nat.lt_of_lt_of_le zY2 hb0.size
    refine zot ?_
    refine zoT (fun w hbw hd => ?_) ?_
    ·have r0 := cell_keep hbw p1 zX2
     exact zgs
    refine zot ?_
    refine zot ?_
    refine zoT (fun w hbw hd => ?_) ?_
    ·have r0 := cell_keep hbw e0 hbl
     have r1 := cell_keep hbw e1 hbl
     have r2 := cell_keep hbw e2 hbl
     have r3 := cell_keep hbw e3 hbl
     have r4 := cell_keep hbw e4 hbl
     have r5 := cell_keep hbw e5 hbl
     have r6 := cell_keep hbw e6 hbl
     have r7 := cell_keep hbw e7 hbl
     have r8 := cell_keep hbw e8 hbl
     have r9 := cell_keep hbw e9 hbl
     have r10 := cell_keep hbw e10 hbl
     exact zgs
    refine zot ?_
    refine zoT (fun w hbw hd => ?_) ?_
    ·have r0 := cell_keep hbw q1 zY2
     exact zgs
    refine zot ?_
    refine zot ?_
    refine zoT (fun w hbw hd => ?_) ?_
    ·have r0 := cell_keep hbw f0 hbl2
     have r1 := cell_keep hbw f1 hbl2
     have r2 := cell_keep hbw f2 hbl2
     have r3 := cell_keep hbw f3 hbl2
     have r4 := cell_keep hbw f4 hbl2
     have r5 := cell_keep hbw f5 hbl2
     have r6 := cell_keep hbw f6 hbl2
     have r7 := cell_keep hbw f7 hbl2
     have r8 := cell_keep hbw f8 hbl2
     have r9 := cell_keep hbw f9 hbl2
     have r10 := cell_keep hbw f10 hbl2
     exact zgs
    refine zoT (fun w hbw hd => ?_) ?_
    ·have hq := heq.out w
     exact zgs
    refine chain_end (fun wz hbz hd => ?_)
    go_wp2_with fail
    have bR : Below wr0.heap.size wr0 wz := hbw.trans ((hb0.trans (hbz.mono hb0.size)).mono hbw.size)
    go_roundw
    case rel => exact ⟨k + 1, by omega, by go_num, bR⟩
    case measure => simp [intOf]; omega
   have i1 : ¬ ((k : Int) < d.jobs.length) := by omega
   go_wp2_with fail
   go_ret
   exact ⟨rfl, BX.trans ((hbw0.trans (hbw.mono hbw0.size)).mono BX.size)⟩
theorem sameSwap_refl (L M : Lay) (s : Swp) (w : World) (ha : SwR w L s) (hb : SwR w M s) (hf : Few s) :
  Calls Tryz.prog 21 #[swV L s, swV M s] w fun e w' => e = .returned (.bool true) ∧ Below w.heap.size w w' := by
 obtain ⟨a0, c0, a1, c1, a2, c2, a3, c3, a4, c4, a5, c5, a6, c6, a7, c7⟩ := L
 obtain ⟨b0, k0, b1, k1, b2, k2, b3, k3, b4, k4, b5, k5, b6, k6, b7, k7⟩ := M
 have hl2 := hf.f2
 have hl3 := hf.f3
 have HA := Lib.hid ha; have HB := Lib.hid hb; have HF := Lib.hid hf
 clear ha hb hf
 unfold swV swC
 dsimp only
 obtain ⟨X, hX⟩ : ∃ X, (w.alloc (.cells (zkx s a0 c0 a1 c1 a2 c2 a3 c3 a4 c4 a5 c5 a6 c6 a7 c7).toArray 35)).alloc (.cells (zkx s b0 k0 b1 k1 b2 k2 b3 k3 b4 k4 b5 k5 b6 k6 b7 k7).toArray 35) = X := ⟨_, rfl⟩
 have kX := za1 hX
 have kY := za2 hX
 have BX := zabb hX
 have zX := kX.lt
 have zY := kY.lt
 obtain ⟨p0, p1, p2, p3, p4, p5, p6, p7, p8, p9, p10⟩ := zc11 kX
 obtain ⟨q0, q1, q2, q3, q4, q5, q6, q7, q8, q9, q10⟩ := zc11 kY
 have hq0 : (s.cap != s.cap) = false := by simp
 have hq1 : ((s.wr.length : Int) != s.wr.length) = false := by simp
 have hq2 : ((s.rd.length : Int) != s.rd.length) = false := by simp
 go_enter Tryz.func21, Tryz.ntmps21
 go_wp2_with fail
 (try rw [hX])
 clear hX
 have hC := sameSlots_refl a0 a1 b0 b1 c0 c1 k0 k1 s.sl X (HA.out.ext BX).r0 (HA.out.ext BX).r1 (HB.out.ext BX).r0 (HB.out.ext BX).r1 (by have := HF.out.f0; omega) (by have := HF.out.f1; omega)
 refine hC.mono ?_
 clear hC
 rintro e1 w1 ⟨rfl, hb1⟩
 have B1 := BX.trans (hb1.mono BX.size)
 replace kX := kX.below_ hb1 kX.lt
 replace kY := kY.below_ hb1 kY.lt
 clear hb1 p0 q0 p1 q1 p2 q2 p3 q3 p4 q4 p5 q5 p6 q6 p7 q7 p8 q8 p9 q9 p10 q10 zX zY
 have zX := kX.lt
 have zY := kY.lt
 obtain ⟨p0, p1, p2, p3, p4, p5, p6, p7, p8, p9, p10⟩ := zc11 kX
 obtain ⟨q0, q1, q2, q3, q4, q5, q6, q7, q8, q9, q10⟩ := zc11 kY
 go_wp2_with fail
 have hC := SameInts_any a4 b4 c4 k4 s.desc s.desc w1 (HA.out.ext B1).r4.sl (HB.out.ext B1).r4.sl (by have := HF.out.f4; omega) (by have := HF.out.f4; omega)
 rw [decide_eq_true rfl] at hC
 refine hC.mono ?_
 clear hC
 rintro e2 w2 ⟨rfl, hb2⟩
 have B2 := B1.trans (hb2.mono B1.size)
 replace kX := kX.below_ hb2 kX.lt
 replace kY := kY.below_ hb2 kY.lt
 clear hb2 p0 q0 p1 q1 p2 q2 p3 q3 p4 q4 p5 q5 p6 q6 p7 q7 p8 q8 p9 q9 p10 q10 zX zY
 have zX := kX.lt
 have zY := kY.lt
 obtain ⟨p0, p1, p2, p3, p4, p5, p6, p7, p8, p9, p10⟩ := zc11 kX
 obtain ⟨q0, q1, q2, q3, q4, q5, q6, q7, q8, q9, q10⟩ := zc11 kY
 go_wp2_with fail
 have hC := samePool_refl a7 b7 c7 k7 s.po w2 (HA.out.ext B2).r7 (HB.out.ext B2).r7 HF.out.f7
 refine hC.mono ?_
 clear hC
 rintro e3 w3 ⟨rfl, hb3⟩
 have B3 := B2.trans (hb3.mono B2.size)
 replace kX := kX.below_ hb3 kX.lt
 replace kY := kY.below_ hb3 kY.lt
 clear hb3 p0 q0 p1 q1 p2 q2 p3 q3 p4 q4 p5 q5 p6 q6 p7 q7 p8 q8 p9 q9 p10 q10 zX zY
 have zX := kX.lt
 have zY := kY.lt
 obtain ⟨p0, p1, p2, p3, p4, p5, p6, p7, p8, p9, p10⟩ := zc11 kX
 obtain ⟨q0, q1, q2, q3, q4, q5, q6, q7, q8, q9, q10⟩ := zc11 kY
 go_wp2_with fail
 have hC := sameDisk_refl a5 a6 b5 b6 c5 c6 k5 k6 s.dk w3 (HA.out.ext B3).r5 (HA.out.ext B3).r6 (HB.out.ext B3).r5 (HB.out.ext B3).r6 HF.out.f5 HF.out.f6
 refine hC.mono ?_
 clear hC
 rintro e4 w4 ⟨rfl, hb4⟩
 have B4 := B3.trans (hb4.mono B3.size)
 replace kX := kX.below_ hb4 kX.lt
 replace kY := kY.below_ hb4 kY.lt
 clear hb4 p0 q0 p1 q1 p2 q2 p3 q3 p4 q4 p5 q5 p6 q6 p7 q7 p8 q8 p9 q9 p10 q10 zX zY
 have HV : Hid (SR wrE w4 a2 s.wr) := (HA.out.ext B4).r2
 have HV2 : Hid (SR wrE w4 b2 s.wr) := (HB.out.ext B4).r2
 go_wp2_with fail
 go_loopw [5] (fun i wr => ∃ k : Nat, k ≤ s.wr.length ∧ i = .int .i64 k ∧ Below w4.heap.size w4 wr) (fun i _ => s.wr.length - (intOf i).toNat)
 case atStart => exact ⟨0, by omega, rfl, Below.refl _ _⟩
 case round =>
  obtain ⟨k, hk, rfl, hbw⟩ := hrel
  have zX := kX.lt
  have zY := kY.lt
  have zw := hbw.size
  have p3 := cell_keep hbw (show w4.cell? ⟨w.heap.size, 3, none⟩ = some (.slice a2 s.wr.length c2) by simpa using kX.cell_ 3) zX
  have q3 := cell_keep hbw (show w4.cell? ⟨w.heap.size + 1, 3, none⟩ = some (.slice b2 s.wr.length k2) by simpa using kY.cell_ 3) zY
  have zX2 : w.heap.size < wr.heap.size := Nat.lt_of_lt_of_le zX zw
  have zY2 : w.heap.size + 1 < wr.heap.size := Nat.lt_of_lt_of_le zY zw
  by_cases hlt : k < s.wr.length
  ·obtain ⟨b, off, y, hA, hbl, hy, hc⟩ := (HV.out.ext hbw).at_ hlt
   obtain ⟨b2, off2, y2, hA2, hbl2, hy2, hc2⟩ := (HV2.out.ext hbw).at_ hlt
   obtain rfl : y = y2 := Option.some.inj (hy.symm.trans hy2)
   (try dsimp only at hA hA2)
   subst hA hA2
   obtain ⟨s0, s1, s2⟩ := y
   clear hy hy2
   have i1 : (k : Int) < s.wr.length := by omega
   have e0 : wr.cell? ⟨b, off + k * 3, none⟩ = some (.int .i64 s0) := hc 0 _ rfl
   have f0 : wr.cell? ⟨b2, off2 + k * 3, none⟩ = some (.int .i64 s0) := hc2 0 _ rfl
   have e1 : wr.cell? ⟨b, off + k * 3 + 1, none⟩ = some (.int .i64 s1) := hc 1 _ rfl
   have f1 : wr.cell? ⟨b2, off2 + k * 3 + 1, none⟩ = some (.int .i64 s1) := hc2 1 _ rfl
   have e2 : wr.cell? ⟨b, off + k * 3 + 2, none⟩ = some (.int .i64 s2) := hc 2 _ rfl
   have f2 : wr.cell? ⟨b2, off2 + k * 3 + 2, none⟩ = some (.int .i64 s2) := hc2 2 _ rfl
   clear hc hc2
   have heq : Hid (∀ W, (Op.equalIn 10000 106 (.agg #[.int .i64 s0, .int .i64 s1, .int .i64 s2]) (.agg #[.int .i64 s0, .int .i64 s1, .int .i64 s2])).run Tryz.prog W = .ok true W) := fun W => (eq_wr W ⟨s0, s1, s2⟩ ⟨s0, s1, s2⟩).trans (by rw [decide_eq_true rfl])
   go_wp2_with fail
   refine wp_region_chain [.is ?fswr0, .is ?fswr1, .is ?fswr2, .is ?fswr3, .is ?fswr4, .is ?fswr5, .is ?fswr6, .is ?fswr7, .is ?fswr8, .is ?fswr9, .is ?fswr10] (by kernel_rfl) (by kernel_rfl) (by kernel_rfl) (lasts_is (lasts_is (lasts_is (lasts_is (lasts_is (lasts_is (lasts_is (lasts_is (lasts_is (lasts_is (lasts_is lasts_nil))))))))))) (fun W0 hb0 hz0 => ?_)
   rotate_left 11
   replace p3 := cell_keep hb0 p3 zX2
   replace q3 := cell_keep hb0 q3 zY2
   replace e0 := cell_keep hb0 e0 hbl
   replace e1 := cell_keep hb0 e1 hbl
   replace e2 := cell_keep hb0 e2 hbl
   replace f0 := cell_keep hb0 f0 hbl2
   replace f1 := cell_keep hb0 f1 hbl2
   replace f2 := cell_keep hb0 f2 hbl2
   replace hbl := Nat.lt_of_lt_of_le hbl hb0.size
   replace hbl2 := Nat.lt_of_lt_of_le hbl2 hb0.size
   replace zX2 := Nat.lt_of_lt_of_le zX2 hb0.size
   replace zY2 := Nat.lt_of_lt_of_le zY2 hb0.size
   refine zot ?_
   refine zoT (fun w hbw hd => ?_) ?_
   ·have r0 := cell_keep hbw p3 zX2
    exact zgs
   refine zot ?_
   refine zot ?_
   refine zoT (fun w hbw hd => ?_) ?_
   ·have r0 := cell_keep hbw e0 hbl
    have r1 := cell_keep hbw e1 hbl
    have r2 := cell_keep hbw e2 hbl
    exact zgs
   refine zot ?_
   refine zoT (fun w hbw hd => ?_) ?_
   ·have r0 := cell_keep hbw q3 zY2
    exact zgs
   refine zot ?_
   refine zot ?_
   refine zoT (fun w hbw hd => ?_) ?_
   ·have r0 := cell_keep hbw f0 hbl2
    have r1 := cell_keep hbw f1 hbl2
    have r2 := cell_keep hbw f2 hbl2
    exact zgs
   refine zoT (fun w hbw hd => ?_) ?_
   ·have hq := heq.out w
    exact zgs
   refine chain_end (fun wz hbz hd => ?_)
   go_wp2_with fail
   have bR : Below w4.heap.size w4 wz := hbw.trans ((hb0.trans (hbz.mono hb0.size)).mono hbw.size)
   go_roundw
   case rel => exact ⟨k + 1, by omega, by go_num, bR⟩
   case measure => simp [intOf]; omega
  have i1 : ¬ ((k : Int) < s.wr.length) := by omega
  go_wp2_with fail
  obtain ⟨wr0, hwr0⟩ : ∃ V, V = wr := ⟨_, rfl⟩
  subst hwr0
  have hbw0 := hbw
  clear hbw
  have kX0 := kX.below_ hbw0 kX.lt
  have kY0 := kY.below_ hbw0 kY.lt
  have HR : Hid (SR rdE wr0 a3 s.rd) := (HA.out.ext (B4.trans (hbw0.mono B4.size))).r3
  have HR2 : Hid (SR rdE wr0 b3 s.rd) := (HB.out.ext (B4.trans (hbw0.mono B4.size))).r3
  clear i1 p3 q3 zX zY
  go_loopw [6] (fun i wr => ∃ k : Nat, k ≤ s.rd.length ∧ i = .int .i64 k ∧ Below wr0.heap.size wr0 wr) (fun i _ => s.rd.length - (intOf i).toNat)
  case atStart => exact ⟨0, by omega, rfl, Below.refl _ _⟩
  case round =>
   obtain ⟨k, hk, rfl, hbw⟩ := hrel
   have zX := kX0.lt
   have zY := kY0.lt
   have zw := hbw.size
   have p4 := cell_keep hbw (show wr0.cell? ⟨w.heap.size, 4, none⟩ = some (.slice a3 s.rd.length c3) by simpa using kX0.cell_ 4) zX
   have q4 := cell_keep hbw (show wr0.cell? ⟨w.heap.size + 1, 4, none⟩ = some (.slice b3 s.rd.length k3) by simpa using kY0.cell_ 4) zY
   have zX2 : w.heap.size < wr.heap.size := Nat.lt_of_lt_of_le zX zw
   have zY2 : w.heap.size + 1 < wr.heap.size := Nat.lt_of_lt_of_le zY zw
   by_cases hlt : k < s.rd.length
   ·obtain ⟨b, off, y, hA, hbl, hy, hc⟩ := (HR.out.ext hbw).at_ hlt
    obtain ⟨b2, off2, y2, hA2, hbl2, hy2, hc2⟩ := (HR2.out.ext hbw).at_ hlt
    obtain rfl : y = y2 := Option.some.inj (hy.symm.trans hy2)
    (try dsimp only at hA hA2)
    subst hA hA2
    obtain ⟨s0, s1, s2⟩ := y
    clear hy hy2
    have i1 : (k : Int) < s.rd.length := by omega
    have e0 : wr.cell? ⟨b, off + k * 3, none⟩ = some (.int .i64 s0) := hc 0 _ rfl
    have f0 : wr.cell? ⟨b2, off2 + k * 3, none⟩ = some (.int .i64 s0) := hc2 0 _ rfl
    have e1 : wr.cell? ⟨b, off + k * 3 + 1, none⟩ = some (.int .i64 s1) := hc 1 _ rfl
    have f1 : wr.cell? ⟨b2, off2 + k * 3 + 1, none⟩ = some (.int .i64 s1) := hc2 1 _ rfl
    have e2 : wr.cell? ⟨b, off + k * 3 + 2, none⟩ = some (.int .i64 s2) := hc 2 _ rfl
    have f2 : wr.cell? ⟨b2, off2 + k * 3 + 2, none⟩ = some (.int .i64 s2) := hc2 2 _ rfl
    clear hc hc2
    have heq : Hid (∀ W, (Op.equalIn 10000 100 (.agg #[.int .i64 s0, .int .i64 s1, .int .i64 s2]) (.agg #[.int .i64 s0, .int .i64 s1, .int .i64 s2])).run Tryz.prog W = .ok true W) := fun W => (eq_rd W ⟨s0, s1, s2⟩ ⟨s0, s1, s2⟩).trans (by rw [decide_eq_true rfl])
    go_wp2_with fail
    refine wp_region_chain [.is ?fsrd0, .is ?fsrd1, .is ?fsrd2, .is ?fsrd3, .is ?fsrd4, .is ?fsrd5, .is ?fsrd6, .is ?fsrd7, .is ?fsrd8, .is ?fsrd9, .is ?fsrd10] (by kernel_rfl) (by kernel_rfl) (by kernel_rfl) (lasts_is (lasts_is (lasts_is (lasts_is (lasts_is (lasts_is (lasts_is (lasts_is (lasts_is (lasts_is (lasts_is lasts_nil))))))))))) (fun W0 hb0 hz0 => ?_)
    rotate_left 11
    replace p4 := cell_keep hb0 p4 zX2
    replace q4 := cell_keep hb0 q4 zY2
    replace e0 := cell_keep hb0 e0 hbl
    replace e1 := cell_keep hb0 e1 hbl
    replace e2 := cell_keep hb0 e2 hbl
    replace f0 := cell_keep hb0 f0 hbl2
    replace f1 := cell_keep hb0 f1 hbl2
    replace f2 := cell_keep hb0 f2 hbl2
    replace hbl := Nat.lt_of_lt_of_le hbl hb0.size
    replace hbl2 := Nat.lt_of_lt_of_le hbl2 hb0.size
    replace zX2 := Nat.lt_of_lt_of_le zX2 hb0.size
    replace zY2 := Nat.lt_of_lt_of_le zY2 hb0.size
    refine zot ?_
    refine zoT (fun w hbw hd => ?_) ?_
    ·have r0 := cell_keep hbw p4 zX2
     exact zgs
    refine zot ?_
    refine zot ?_
    refine zoT (fun w hbw hd => ?_) ?_
    ·have r0 := cell_keep hbw e0 hbl
     have r1 := cell_keep hbw e1 hbl
     have r2 := cell_keep hbw e2 hbl
     exact zgs
    refine zot ?_
    refine zoT (fun w hbw hd => ?_) ?_
    ·have r0 := cell_keep hbw q4 zY2
     exact zgs
    refine zot ?_
    refine zot ?_
    refine zoT (fun w hbw hd => ?_) ?_
    ·have r0 := cell_keep hbw f0 hbl2
     have r1 := cell_keep hbw f1 hbl2
     have r2 := cell_keep hbw f2 hbl2
     exact zgs
    refine zoT (fun w hbw hd => ?_) ?_
    ·have hq := heq.out w
     exact zgs
    refine chain_end (fun wz hbz hd => ?_)
    go_wp2_with fail
    have bR : Below wr0.heap.size wr0 wz := hbw.trans ((hb0.trans (hbz.mono hb0.size)).mono hbw.size)
    go_roundw
    case rel => exact ⟨k + 1, by omega, by go_num, bR⟩
    case measure => simp [intOf]; omega
   have i1 : ¬ ((k : Int) < s.rd.length) := by omega
   go_wp2_with fail
   go_ret
   exact ⟨rfl, B4.trans ((hbw0.trans (hbw.mono hbw0.size)).mono B4.size)⟩
def jobI (js : List Jb) (n : Int) : Int := match js.findIdx? (fun j => decide (j.slot = n)) with
 | none => -1
 | some i => i
def tmsL (l : List Wr) (p : Int) : Nat := l.countP fun v => decide (v.2.2 = p)
def wtdL (l : List Wr) (n : Int) : Bool := l.any fun v => decide (v.1 = n) && decide (v.2.2 ≠ 0)
def mtG : List Jb → List Wr → List Wr → Bool
 | [], ws, rs => ws.isEmpty && rs.isEmpty
 | ⟨true, s, f, _⟩ :: js, v :: ws, rs => decide (v.1 = s ∧ v.2.1 = f) && mtG js ws rs
 | ⟨true, _, _, _⟩ :: _, [], _ => false
 | ⟨false, s, f, _⟩ :: js, ws, v :: rs => decide (v.1 = s ∧ v.2.1 = f) && mtG js ws rs
 | ⟨false, _, _, _⟩ :: _, _, [] => false
theorem pair_iff {v : Wr} {s f : Int} : decide (v.1 = s ∧ v.2.1 = f) = decide ((s, f) = (v.1, v.2.1)) := by
 refine decide_eq_decide.2 ?_
 rw [Prod.mk.injEq]
 exact ⟨fun h => ⟨h.1.symm, h.2.symm⟩, fun h => ⟨h.1.symm, h.2.symm⟩⟩
theorem mtG_iff : ∀ (js : List Jb) (ws rs : List Wr), mtG js ws rs = true ↔ jvs js true = vvs ws ∧ jvs js false = vvs rs
 | [], ws, rs => by
  unfold mtG jvs vvs
  rw [Bool.and_eq_true, List.isEmpty_iff, List.isEmpty_iff]
  constructor
  ·rintro ⟨rfl, rfl⟩; exact ⟨rfl, rfl⟩
  ·rintro ⟨h1, h2⟩
   exact ⟨List.map_eq_nil_iff.1 h1.symm, List.map_eq_nil_iff.1 h2.symm⟩
 | ⟨true, s, f, d⟩ :: js, v :: ws, rs => by
  have ih := mtG_iff js ws rs
  have e1 : jvs (⟨true, s, f, d⟩ :: js) true = (s, f) :: jvs js true := rfl
  have e2 : jvs (⟨true, s, f, d⟩ :: js) false = jvs js false := rfl
  have e3 : vvs (v :: ws) = (v.1, v.2.1) :: vvs ws := rfl
  rw [mtG, pair_iff, Bool.and_eq_true, ih, decide_eq_true_eq, e1, e2, e3, List.cons.injEq, and_assoc]
 | ⟨true, s, f, d⟩ :: js, [], rs => by
  have e1 : jvs (⟨true, s, f, d⟩ :: js) true = (s, f) :: jvs js true := rfl
  rw [mtG, e1]
  exact ⟨fun h => (by cases h), fun h => (by cases h.1)⟩
 | ⟨false, s, f, d⟩ :: js, ws, v :: rs => by
  have ih := mtG_iff js ws rs
  have e1 : jvs (⟨false, s, f, d⟩ :: js) false = (s, f) :: jvs js false := rfl
  have e2 : jvs (⟨false, s, f, d⟩ :: js) true = jvs js true := rfl
  have e3 : vvs (v :: rs) = (v.1, v.2.1) :: vvs rs := rfl
  rw [mtG, pair_iff, Bool.and_eq_true, ih, decide_eq_true_eq, e1, e2, e3, List.cons.injEq]
  exact ⟨fun h => ⟨h.2.1, h.1, h.2.2⟩, fun h => ⟨h.2.1, h.1, h.2.2⟩⟩
 | ⟨false, s, f, d⟩ :: js, ws, [] => by
  have e1 : jvs (⟨false, s, f, d⟩ :: js) false = (s, f) :: jvs js false := rfl
  rw [mtG, e1]
  exact ⟨fun h => (by cases h), fun h => (by cases h.2)⟩
theorem tmsL_zero {l : List Wr} {p : Int} : tmsL l p = 0 ↔ ∀ v ∈ l, v.2.2 ≠ p := by
 unfold tmsL
 rw [List.countP_eq_zero]
 simp
theorem nodup_tms : ∀ (l : List Wr), ((l.filter fun v => decide (v.2.2 ≠ 0)).map (·.2.2)).Nodup ↔ ∀ p, p ≠ 0 → tmsL l p ≤ 1
 | [] => by simp [tmsL]
 | v :: l => by
  have ih := nodup_tms l
  have hc : ∀ p, tmsL (v :: l) p = tmsL l p + if v.2.2 = p then 1 else 0 := fun p => by
   unfold tmsL
   rw [List.countP_cons]
   simp
  by_cases h : v.2.2 = 0
  ·rw [List.filter_cons_of_neg (by simpa using h), ih]
   constructor
   ·intro k p hp
    rw [hc, if_neg (by rw [h]; exact fun e => hp e.symm)]
    exact k p hp
   ·intro k p hp
    have := k p hp
    rw [hc, if_neg (by rw [h]; exact fun e => hp e.symm)] at this
    exact this
  ·rw [List.filter_cons_of_pos (by simpa using h), List.map_cons, List.nodup_cons, ih]
   have hm : v.2.2 ∉ (l.filter fun v => decide (v.2.2 ≠ 0)).map (·.2.2) ↔ tmsL l v.2.2 = 0 := by
    rw [tmsL_zero]
    constructor
    ·intro k x hx e
     exact k (List.mem_map.2 ⟨x, List.mem_filter.2 ⟨hx, by rw [decide_eq_true_eq, e]; exact h⟩, e⟩)
    ·intro k hx
     obtain ⟨x, hx, e⟩ := List.mem_map.1 hx
     exact k x (List.mem_filter.1 hx).1 e
   rw [hm]
   constructor
   ·rintro ⟨k1, k2⟩ p hp
    rw [hc]
    by_cases e : v.2.2 = p
    ·rw [if_pos e, ← e, k1]; omega
    ·rw [if_neg e]; exact k2 p hp
   ·intro k
    refine ⟨?_, fun p hp => ?_⟩
    ·have := k v.2.2 h
     rw [hc, if_pos rfl] at this
     omega
    ·have := k p hp
     rw [hc] at this
     omega
theorem bsW_job (js : List Jb) (i : Nat) : bsW js i = decide (0 ≤ jobI js i) := by
 unfold bsW jobI
 cases h : js.findIdx? (fun j => decide (j.slot = (i : Int))) with
 | none =>
  rw [List.findIdx?_eq_none_iff] at h
  rw [List.any_eq_false.2 fun x hx => by simpa using h x hx]
  rfl
 | some k =>
  obtain ⟨hk, h1, _⟩ := List.findIdx?_eq_some_iff_getElem.1 h
  rw [List.any_eq_true.2 ⟨js[k], List.getElem_mem _, h1⟩]
  exact (decide_eq_true (by show (0 : Int) ≤ k; omega)).symm
theorem map_range_iff {l : List Bool} {f : Nat → Bool} : l = (List.range l.length).map f ↔ ∀ i, i < l.length → l.getD i false = f i := by
 constructor
 ·intro h i hi
  rw [List.getD_eq_getElem?_getD, List.getElem?_eq_getElem hi, Option.getD_some]
  have : l[i]? = ((List.range l.length).map f)[i]? := by rw [← h]
  rw [List.getElem?_eq_getElem hi, List.getElem?_map, List.getElem?_range hi] at this
  simpa using this
 ·intro h
  refine List.ext_getElem (by simp) fun i h1 h2 => ?_
  have := h i h1
  rw [List.getD_eq_getElem?_getD, List.getElem?_eq_getElem h1, Option.getD_some] at this
  simpa using this
theorem agR_iff {s : Swp} (h1 : OkT s.sl) (h2 : Valid s.wr) (h3 : OkD s.dk) : agW s = true ↔
  (s.sl.refs.length = s.dk.cells.length ∧ s.dk.room = s.po.size ∧ (s.wr.length : Int) ≤ s.cap) ∧ mtG s.dk.jobs s.wr s.rd = true ∧
  (s.desc.length = s.dk.jobs.length ∧ (tknP s.po).length = s.desc.length ∧ ∀ d ∈ tknP s.po, d ∈ s.desc) ∧ (∀ v ∈ s.rd, 0 ≤ v.2.2 ∧ v.2.2 ≤ 8) ∧
  (∀ p : Int, 1 ≤ p → p ≤ 8 → tmsL (s.wr ++ s.rd) p ≤ 1) ∧ ∀ i : Nat, i < s.sl.refs.length → bsyT s.sl i = decide (0 ≤ jobI s.dk.jobs i) ∧ ¬ (wtdL (s.wr ++ s.rd) i = true ∧ refT s.sl i = 0) := by
 have hw : ∀ v ∈ s.wr, v.2.2 = 0 ∨ (1 ≤ v.2.2 ∧ v.2.2 ≤ 8) := fun v hv => by
  have := h2.2.1 v hv
  unfold okW at this
  simp at this
  exact this.2.2
 have hnd : ((wtW s).map (·.1)).Nodup ↔ ∀ p, p ≠ 0 → tmsL (s.wr ++ s.rd) p ≤ 1 := by
  rw [← nodup_tms]
  unfold wtW
  rw [List.map_map]
  rfl
 have hmem : ∀ x, x ∈ wtW s ↔ ∃ v ∈ s.wr ++ s.rd, v.2.2 ≠ 0 ∧ x = (v.2.2, v.1) := fun x => by
  unfold wtW
  constructor
  ·intro h
   obtain ⟨v, hv, e⟩ := List.mem_map.1 h
   exact ⟨v, (List.mem_filter.1 hv).1, by simpa using (List.mem_filter.1 hv).2, e.symm⟩
  ·rintro ⟨v, hv, h0, rfl⟩
   exact List.mem_map.2 ⟨v, List.mem_filter.2 ⟨hv, by simpa using h0⟩, rfl⟩
 have hwd : ∀ n, wtdL (s.wr ++ s.rd) n = true ↔ ∃ v ∈ s.wr ++ s.rd, v.1 = n ∧ v.2.2 ≠ 0 := fun n => by
  unfold wtdL
  rw [List.any_eq_true]
  simp
 have hrf : ∀ i, 0 ≤ refT s.sl i := fun i => by
  unfold refT
  rw [List.getD_eq_getElem?_getD]
  cases h : s.sl.refs[i]? with
  | none => exact Int.le_refl _
  | some r => exact (h1.range r (List.mem_of_getElem? h)).1
 have hbl := h1.blen
 rw [agW_ok, mtG_iff]
 constructor
 ·rintro ⟨a1, a2, a3, a4, a5, a6, a7, ⟨a8, a9⟩, a10⟩
  refine ⟨a1, ⟨a2, a3⟩, ⟨a5, a6, a7⟩, fun v hv => ?_, fun p p1 _ => hnd.1 a8 p (by omega), fun i hi => ⟨?_, ?_⟩⟩
  ·by_cases e : v.2.2 = 0
   ·omega
   ·have := a9 (v.2.2, v.1) ((hmem _).2 ⟨v, by simp [hv], e, rfl⟩)
    omega
  ·rw [← bsW_job]
   exact map_range_iff.1 a4 i (by omega)
  ·rintro ⟨b1, b2⟩
   obtain ⟨v, hv, e, h0⟩ := (hwd _).1 b1
   have := a10 (v.2.2, v.1) ((hmem _).2 ⟨v, hv, h0, rfl⟩)
   dsimp only at this
   rw [e, Int.toNat_natCast] at this
   omega
 ·rintro ⟨a1, ⟨a2, a3⟩, ⟨a5, a6, a7⟩, b1, b2, b3⟩
  have hall : ∀ v ∈ s.wr ++ s.rd, v.2.2 = 0 ∨ (1 ≤ v.2.2 ∧ v.2.2 ≤ 8) := fun v hv => by
   rcases List.mem_append.1 hv with hv | hv
   ·exact hw v hv
   ·have := b1 v hv; omega
  have hsl : ∀ v ∈ s.wr ++ s.rd, 0 ≤ v.1 ∧ v.1 < s.sl.refs.length := fun v hv => by
   have key : ∀ (b : Bool) (vs : List Wr), jvs s.dk.jobs b = vvs vs → v ∈ vs → 0 ≤ v.1 ∧ v.1 < s.sl.refs.length := fun b vs hm hx => by
    have hv : (v.1, v.2.1) ∈ jvs s.dk.jobs b := by rw [hm]; exact List.mem_map.2 ⟨v, hx, rfl⟩
    obtain ⟨j, hj, e⟩ := List.mem_map.1 hv
    have := h3.inr j (List.mem_filter.1 hj).1
    injection e with e _
    omega
   rcases List.mem_append.1 hv with hv | hv
   ·exact key _ _ a2 hv
   ·exact key _ _ a3 hv
  refine ⟨a1, a2, a3, map_range_iff.2 fun i hi => ?_, a5, a6, a7, ⟨hnd.2 fun p hp => ?_, fun x hx => ?_⟩, fun x hx => ?_⟩
  ·rw [bsW_job]
   exact (b3 i (by omega)).1
  ·by_cases e : 1 ≤ p ∧ p ≤ 8
   ·exact b2 p e.1 e.2
   ·rw [tmsL_zero.2 fun v hv k => by have := hall v hv; omega]
    omega
  ·obtain ⟨v, hv, h0, rfl⟩ := (hmem _).1 hx
   have := hall v hv
   dsimp only
   omega
  ·obtain ⟨v, hv, h0, rfl⟩ := (hmem _).1 hx
   have hr := hsl v hv
   have := (b3 v.1.toNat (by omega)).2
   have h := hrf v.1.toNat
   have hn : refT s.sl v.1.toNat ≠ 0 := fun e => this ⟨(hwd _).2 ⟨v, hv, by omega, h0⟩, e⟩
   dsimp only
   omega
def LitE (v : Value) (_ _ : Nat) (_ : World) : Prop := ∃ g, v = .slice (some ⟨g, 0, none⟩) 0 0
theorem LitE.lasts : (Fk.has LitE).lasts := fun _ _ _ _ _ h _ => h
theorem step_appF {α : Type} (E : Elt Tryz.prog α) {ops : Array Oper} {o : Oper} {a : Act} {K : Act → World → Prop} {Q : Exit → Act → World → Prop} {E' : Prop} (hgd : o.guard = none) (s x : Operand) (t : TypeId) (ht : t = E.s)
  (ho : o.op = .call { callee := .builtin .append, args := #[s, x], argTypes := #[t, t] }) (w : World) (g : Nat) (B : Option Addr) (d n : Nat) (k : List α) (hn : n = k.length) (hk : SR E w B k) (hl : k.length ≤ 1000)
  (hs : a.eval s = .slice (some ⟨g, 0, none⟩) 0 0) (hx : a.eval x = .slice B n d)
  (hK : ∀ A' c' w', OwnE E w' w.heap.size A' c' k → Below w.heap.size w w' → K (a.put o.dst (.slice A' n c')) w') :
  if Region.wanted o (yielded ops a.tmps) = true then Oper.wp Tryz.prog o a w K Q else E' := by
 subst hn ht
 obtain ⟨A', c', w', hrun, h2, h3, h4⟩ := run_appR E o.type w w.heap.size (Nat.le_refl _) (some ⟨g, 0, none⟩) 0 [] (.inl ⟨rfl, SR.nil⟩) B d k hk (by simp; omega)
 exact step_app hgd s x _ ho w w' _ _ _ hs hx hrun (hK A' c' w' ⟨h2, h4 (.inl rfl)⟩ h3)
theorem kOwnInts_any (A : Option Addr) (c : Nat) (l : List Int) (w : World) (ha : SR intE w A l) (la : l.length ≤ 1000) : Calls Tryz.prog 45 #[.slice A l.length c] w (ClnPost intE l w) := by
 have HA := Lib.hid ha
 clear ha
 go_enter Tryz.func45, Tryz.ntmps45
 go_wp2_with (at_builtin; refine wpList_appR intE rfl (.tmp 3) (.tmp 4) _ rfl rfl _ w.heap.size (by simp) (some ⟨w.heap.size, 0, none⟩) 0 0 [] rfl (.inl ⟨rfl, SR.nil⟩) A c l.length l rfl (HA.out.ext zbl) (by simp; omega) rfl rfl ?_; intro A' c' w1 hc1 hb1 hm1)
 go_ret
 exact ⟨A', c', rfl, ⟨hc1, hm1 (by simp)⟩, zbl⟩
theorem kOwnSlots_any (A B : Option Addr) (c d : Nat) (s : Sts) (w : World) (ha : SR intE w A s.refs) (hb : SR boolE w B s.busy) (la : s.refs.length ≤ 1000) (lb : s.busy.length ≤ 1000) :
  Calls Tryz.prog 42 #[stV A c B d s] w (BkPost s w) := by
 have HA := Lib.hid ha
 have HB := Lib.hid hb
 unfold stV
 clear ha hb
 obtain ⟨X, hX⟩ : ∃ X, (w.alloc (.cells #[.slice A s.refs.length c, .slice B s.busy.length d] 25)).alloc (.cells #[.slice none 0 0, .slice none 0 0] 25) = X := ⟨_, rfl⟩
 have kD : Blk X w.heap.size 25 #[.slice A s.refs.length c, .slice B s.busy.length d] := by rw [← hX]; exact zbk
 have kT := za2 hX
 have BX : Below w.heap.size w X := by rw [← hX]; exact zbl
 have hXs : X.heap.size = w.heap.size + 2 := by rw [← hX]; simp
 replace HA := Lib.hid (HA.out.ext BX)
 replace HB := Lib.hid (HB.out.ext BX)
 go_enter Tryz.func42, Tryz.ntmps42
 go_wp2_with fail
 (try rw [hX])
 clear hX
 refine zrg [2, 0, 1, 2, 2, 0, 1, 2, 0, 3] [[], [], [], [], [], [], [], [], [3, 7], []] [.has (LitE), .is ?_, .kn ?_, .has (ClnF intE s.refs s.refs.length), .has (LitE), .is ?_, .kn ?_, .has (ClnF boolE s.busy s.busy.length), .fn [3, 7] (fun l => .agg #[l.getD 0 undef, l.getD 1 undef]), .late] [9] (lts_has (LitE.lasts) (lts_is (lts_kn (lts_has (ClnF.lasts intE s.refs _) (lts_has (LitE.lasts) (lts_is (lts_kn (lts_has (ClnF.lasts boolE s.busy _) (lts_fn (lts_late lts_nil)))))))))) (fun W0 hb0 hz0 => ?_)
 rotate_left 4
 have kW := kD.below_ hb0 kD.lt
 have zW := kW.lt
 have kT0 := kT.below_ hb0 kT.lt
 have zX0 : w.heap.size ≤ W0.heap.size := Nat.le_trans BX.size hb0.size
 replace HA := Lib.hid (HA.out.ext hb0)
 replace HB := Lib.hid (HB.out.ext hb0)
 obtain ⟨p0, p1⟩ := zc2 kW
 refine zqh (fun w hbw hd K Q' hK => ?_) (fun vks0 => ?_)
 ·clear hd
  go_simp
  exact hK.out (.slice (some ⟨w.heap.size, 0, none⟩) 0 0) _ _ zpt zbm ⟨_, rfl⟩
 refine zqp ?_
 refine zqT (fun w hbw hd => ?_) ?_
 ·have q1 := cell_keep hbw p0 zW
  exact zgs
 refine zqh (fun w hbw hd K Q' hK => ?_) (fun vks3 => ?_)
 ·obtain ⟨_, _, g, rfl⟩ : ∃ lo hi, LitE vks0 lo hi w := hd 0 _ _ (by kernel_rfl) rfl rfl
  clear hd
  refine step_appF intE rfl (.tmp 3) (.tmp 5) _ rfl rfl w g A c s.refs.length s.refs rfl (HA.out.ext hbw) la rfl rfl ?_
  intro A' c' y ho hy
  exact hK.out (.slice A' s.refs.length c') _ _ zpt zbm ⟨A', c', rfl, ho⟩
 refine zqh (fun w hbw hd K Q' hK => ?_) (fun vks4 => ?_)
 ·clear hd
  go_simp
  exact hK.out (.slice (some ⟨w.heap.size, 0, none⟩) 0 0) _ _ zpt zbm ⟨_, rfl⟩
 refine zqp ?_
 refine zqT (fun w hbw hd => ?_) ?_
 ·have q1 := cell_keep hbw p1 zW
  exact zgs
 refine zqh (fun w hbw hd K Q' hK => ?_) (fun vks7 => ?_)
 ·obtain ⟨_, _, g, rfl⟩ : ∃ lo hi, LitE vks4 lo hi w := hd 4 _ _ (by kernel_rfl) rfl rfl
  clear hd
  refine step_appF boolE rfl (.tmp 7) (.tmp 9) _ rfl rfl w g B d s.busy.length s.busy rfl (HB.out.ext hbw) lb rfl rfl ?_
  intro A' c' y ho hy
  exact hK.out (.slice A' s.busy.length c') _ _ zpt zbm ⟨A', c', rfl, ho⟩
 refine zqF (.agg #[vks3, vks7]) (fun w0 hd w => ?_) ?_
 ·obtain ⟨_, _, A', d', rfl, _⟩ : ∃ lo hi, ClnF intE s.refs s.refs.length vks3 lo hi w0 := hd 3 _ _ (by kernel_rfl) rfl rfl
  obtain ⟨_, _, B', d', rfl, _⟩ : ∃ lo hi, ClnF boolE s.busy s.busy.length vks7 lo hi w0 := hd 7 _ _ (by kernel_rfl) rfl rfl
  exact zsr
 refine zql ?_
 refine chn_end (fun wz lo hi hbz hd hR => ?_)
 obtain ⟨A1, d1, rfl, o1⟩ : ClnF intE s.refs s.refs.length vks3 (lo 3) (hi 3) wz := hd 3 _ _ rfl rfl
 obtain ⟨A2, d2, rfl, o2⟩ : ClnF boolE s.busy s.busy.length vks7 (lo 7) (hi 7) wz := hd 7 _ _ rfl rfl
 have r2 := (hR.2 3 _ rfl).1
 have r5 := (hR.2 7 _ rfl).1
 have zX1 : w.heap.size + 2 ≤ W0.heap.size := Nat.le_trans (by rw [hXs]; exact Nat.le_refl _) hb0.size
 have BZ : Below w.heap.size w wz := BX.trans ((hb0.trans (hbz.mono hb0.size)).mono BX.size)
 have kTz := kT0.below_ hbz kT0.lt
 have zTz := kTz.lt
 clear hd hR p0 p1
 obtain ⟨y0, y1⟩ := zc2 kTz
 obtain ⟨yf0, yf1, -⟩ := zf kTz
 refine late_one (by simp only [zy5, zy6, zy7]; rfl) (fun K Q' hK => ?_)
 go_simp
 refine hK.out _ ?_
 clear hK K Q'
 go_wp2_with fail
 obtain ⟨W, hW⟩ : ∃ W, setN wz (w.heap.size + 1) 0 [.slice A1 s.refs.length d1, .slice A2 s.busy.length d2] = W := ⟨_, rfl⟩
 have hWn : World.setCell (World.setCell wz ⟨w.heap.size + 1, 0, none⟩ (.slice A1 s.refs.length d1)) ⟨w.heap.size + 1, 1, none⟩ (.slice A2 s.busy.length d2) = W := hW
 have kW := zsw hW kTz
 have bW := zbw hW BZ (by omega)
 have o1W : OwnE intE W (w.heap.size + 2) A1 d1 s.refs := by rw [← hW]; exact (o1.base_ (by omega)).farN (by exact Nat.lt_succ_self _) _
 have o2W : OwnE boolE W (w.heap.size + 2) A2 d2 s.busy := by rw [← hW]; exact (o2.base_ (by omega)).farN (by exact Nat.lt_succ_self _) _
 rw [hWn]
 clear hWn hW y0 yf0 y1 yf1
 refine bodyPost_ret (by simp [results, Tryz.results42, go_sem, zc2 kW] <;> rfl) rfl ?_
 exact ⟨A1, d1, A2, d2, rfl, o1W.base_ (by omega), o2W.base_ (by omega), bW⟩
theorem kOwnDisk_any (A B : Option Addr) (c d : Nat) (k0 : Dsk) (w : World) (ha : SR ctE w A k0.cells) (hb : SR jbE w B k0.jobs) (la : k0.cells.length ≤ 1000) (lb : k0.jobs.length ≤ 1000) :
  Calls Tryz.prog 43 #[dkV A c B d k0] w (DcPost k0 w) := by
 have HA := Lib.hid ha
 have HB := Lib.hid hb
 unfold dkV
 clear ha hb
 obtain ⟨X, hX⟩ : ∃ X, (w.alloc (.cells #[.slice A k0.cells.length c, .slice B k0.jobs.length d, .int .i64 k0.room] 31)).alloc (.cells #[.slice none 0 0, .slice none 0 0, .int .i64 0] 31) = X := ⟨_, rfl⟩
 have kD : Blk X w.heap.size 31 #[.slice A k0.cells.length c, .slice B k0.jobs.length d, .int .i64 k0.room] := by rw [← hX]; exact zbk
 have kT := za2 hX
 have BX : Below w.heap.size w X := by rw [← hX]; exact zbl
 have hXs : X.heap.size = w.heap.size + 2 := by rw [← hX]; simp
 replace HA := Lib.hid (HA.out.ext BX)
 replace HB := Lib.hid (HB.out.ext BX)
 go_enter Tryz.func43, Tryz.ntmps43
 go_wp2_with fail
 (try rw [hX])
 clear hX
 refine zrg [2, 0, 1, 2, 2, 0, 1, 2, 0, 1, 0, 3] [[], [], [], [], [], [], [], [], [], [], [3, 7], []] [.has (LitE), .is ?_, .kn ?_, .has (ClnF ctE k0.cells k0.cells.length), .has (LitE), .is ?_, .kn ?_, .has (ClnF jbE k0.jobs k0.jobs.length), .is ?_, .kn ?_, .fn [3, 7] (fun l => .agg #[l.getD 0 undef, l.getD 1 undef, .int .i64 k0.room]), .late] [11] (lts_has (LitE.lasts) (lts_is (lts_kn (lts_has (ClnF.lasts ctE k0.cells _) (lts_has (LitE.lasts) (lts_is (lts_kn (lts_has (ClnF.lasts jbE k0.jobs _) (lts_is (lts_kn (lts_fn (lts_late lts_nil)))))))))))) (fun W0 hb0 hz0 => ?_)
 rotate_left 6
 have kW := kD.below_ hb0 kD.lt
 have zW := kW.lt
 have kT0 := kT.below_ hb0 kT.lt
 have zX0 : w.heap.size ≤ W0.heap.size := Nat.le_trans BX.size hb0.size
 replace HA := Lib.hid (HA.out.ext hb0)
 replace HB := Lib.hid (HB.out.ext hb0)
 obtain ⟨p0, p1, p2⟩ := zc3 kW
 refine zqh (fun w hbw hd K Q' hK => ?_) (fun vkd0 => ?_)
 ·clear hd
  go_simp
  exact hK.out (.slice (some ⟨w.heap.size, 0, none⟩) 0 0) _ _ zpt zbm ⟨_, rfl⟩
 refine zqp ?_
 refine zqT (fun w hbw hd => ?_) ?_
 ·have q1 := cell_keep hbw p0 zW
  exact zgs
 refine zqh (fun w hbw hd K Q' hK => ?_) (fun vkd3 => ?_)
 ·obtain ⟨_, _, g, rfl⟩ : ∃ lo hi, LitE vkd0 lo hi w := hd 0 _ _ (by kernel_rfl) rfl rfl
  clear hd
  refine step_appF ctE rfl (.tmp 3) (.tmp 5) _ rfl rfl w g A c k0.cells.length k0.cells rfl (HA.out.ext hbw) la rfl rfl ?_
  intro A' c' y ho hy
  exact hK.out (.slice A' k0.cells.length c') _ _ zpt zbm ⟨A', c', rfl, ho⟩
 refine zqh (fun w hbw hd K Q' hK => ?_) (fun vkd4 => ?_)
 ·clear hd
  go_simp
  exact hK.out (.slice (some ⟨w.heap.size, 0, none⟩) 0 0) _ _ zpt zbm ⟨_, rfl⟩
 refine zqp ?_
 refine zqT (fun w hbw hd => ?_) ?_
 ·have q1 := cell_keep hbw p1 zW
  exact zgs
 refine zqh (fun w hbw hd K Q' hK => ?_) (fun vkd7 => ?_)
 ·obtain ⟨_, _, g, rfl⟩ : ∃ lo hi, LitE vkd4 lo hi w := hd 4 _ _ (by kernel_rfl) rfl rfl
  clear hd
  refine step_appF jbE rfl (.tmp 7) (.tmp 9) _ rfl rfl w g B d k0.jobs.length k0.jobs rfl (HB.out.ext hbw) lb rfl rfl ?_
  intro A' c' y ho hy
  exact hK.out (.slice A' k0.jobs.length c') _ _ zpt zbm ⟨A', c', rfl, ho⟩
 refine zqp ?_
 refine zqT (fun w hbw hd => ?_) ?_
 ·have q1 := cell_keep hbw p2 zW
  exact zgs
 refine zqF (.agg #[vkd3, vkd7, .int .i64 k0.room]) (fun w0 hd w => ?_) ?_
 ·obtain ⟨_, _, A', d', rfl, _⟩ : ∃ lo hi, ClnF ctE k0.cells k0.cells.length vkd3 lo hi w0 := hd 3 _ _ (by kernel_rfl) rfl rfl
  obtain ⟨_, _, B', d', rfl, _⟩ : ∃ lo hi, ClnF jbE k0.jobs k0.jobs.length vkd7 lo hi w0 := hd 7 _ _ (by kernel_rfl) rfl rfl
  exact zsr
 refine zql ?_
 refine chn_end (fun wz lo hi hbz hd hR => ?_)
 obtain ⟨A1, d1, rfl, o1⟩ : ClnF ctE k0.cells k0.cells.length vkd3 (lo 3) (hi 3) wz := hd 3 _ _ rfl rfl
 obtain ⟨A2, d2, rfl, o2⟩ : ClnF jbE k0.jobs k0.jobs.length vkd7 (lo 7) (hi 7) wz := hd 7 _ _ rfl rfl
 have r2 := (hR.2 3 _ rfl).1
 have r5 := (hR.2 7 _ rfl).1
 have zX1 : w.heap.size + 2 ≤ W0.heap.size := Nat.le_trans (by rw [hXs]; exact Nat.le_refl _) hb0.size
 have BZ : Below w.heap.size w wz := BX.trans ((hb0.trans (hbz.mono hb0.size)).mono BX.size)
 have kTz := kT0.below_ hbz kT0.lt
 have zTz := kTz.lt
 clear hd hR p0 p1 p2
 obtain ⟨y0, y1, y2⟩ := zc3 kTz
 obtain ⟨yf0, yf1, yf2, -⟩ := zf kTz
 refine late_one (by simp only [zy5, zy6, zy7]; rfl) (fun K Q' hK => ?_)
 go_simp
 refine hK.out _ ?_
 clear hK K Q'
 go_wp2_with fail
 obtain ⟨W, hW⟩ : ∃ W, setN wz (w.heap.size + 1) 0 [.slice A1 k0.cells.length d1, .slice A2 k0.jobs.length d2, .int .i64 k0.room] = W := ⟨_, rfl⟩
 have hWn : World.setCell (World.setCell (World.setCell wz ⟨w.heap.size + 1, 0, none⟩ (.slice A1 k0.cells.length d1)) ⟨w.heap.size + 1, 1, none⟩ (.slice A2 k0.jobs.length d2)) ⟨w.heap.size + 1, 2, none⟩ (.int .i64 k0.room) = W := hW
 have kW := zsw hW kTz
 have bW := zbw hW BZ (by omega)
 have o1W : OwnE ctE W (w.heap.size + 2) A1 d1 k0.cells := by rw [← hW]; exact (o1.base_ (by omega)).farN (by exact Nat.lt_succ_self _) _
 have o2W : OwnE jbE W (w.heap.size + 2) A2 d2 k0.jobs := by rw [← hW]; exact (o2.base_ (by omega)).farN (by exact Nat.lt_succ_self _) _
 rw [hWn]
 clear hWn hW y0 yf0 y1 yf1 y2 yf2
 refine bodyPost_ret (by simp [results, Tryz.results43, go_sem, zc3 kW] <;> rfl) rfl ?_
 exact ⟨A1, d1, A2, d2, rfl, o1W.base_ (by omega), o2W.base_ (by omega), bW⟩
theorem rdOwn_any (A B : Option Addr) (c d : Nat) (k0 : Dsk) (w : World) (ha : SR ctE w A k0.cells) (hb : SR jbE w B k0.jobs) (la : k0.cells.length ≤ 1000) (lb : k0.jobs.length ≤ 1000) :
  Calls Tryz.prog 142 #[dkV A c B d k0] w (DcPost k0 w) := by
 have HA := Lib.hid ha
 have HB := Lib.hid hb
 unfold dkV
 clear ha hb
 obtain ⟨X, hX⟩ : ∃ X, (w.alloc (.cells #[.slice A k0.cells.length c, .slice B k0.jobs.length d, .int .i64 k0.room] 31)).alloc (.cells #[.slice none 0 0, .slice none 0 0, .int .i64 0] 31) = X := ⟨_, rfl⟩
 have kD : Blk X w.heap.size 31 #[.slice A k0.cells.length c, .slice B k0.jobs.length d, .int .i64 k0.room] := by rw [← hX]; exact zbk
 have kT := za2 hX
 have BX : Below w.heap.size w X := by rw [← hX]; exact zbl
 have hXs : X.heap.size = w.heap.size + 2 := by rw [← hX]; simp
 replace HA := Lib.hid (HA.out.ext BX)
 replace HB := Lib.hid (HB.out.ext BX)
 go_enter Tryz.func142, Tryz.ntmps142
 go_wp2_with fail
 (try rw [hX])
 clear hX
 refine zrg [2, 0, 1, 2, 2, 0, 1, 2, 0, 1, 0, 3] [[], [], [], [], [], [], [], [], [], [], [3, 7], []] [.has (LitE), .is ?_, .kn ?_, .has (ClnF ctE k0.cells k0.cells.length), .has (LitE), .is ?_, .kn ?_, .has (ClnF jbE k0.jobs k0.jobs.length), .is ?_, .kn ?_, .fn [3, 7] (fun l => .agg #[l.getD 0 undef, l.getD 1 undef, .int .i64 k0.room]), .late] [11] (lts_has (LitE.lasts) (lts_is (lts_kn (lts_has (ClnF.lasts ctE k0.cells _) (lts_has (LitE.lasts) (lts_is (lts_kn (lts_has (ClnF.lasts jbE k0.jobs _) (lts_is (lts_kn (lts_fn (lts_late lts_nil)))))))))))) (fun W0 hb0 hz0 => ?_)
 rotate_left 6
 have kW := kD.below_ hb0 kD.lt
 have zW := kW.lt
 have kT0 := kT.below_ hb0 kT.lt
 have zX0 : w.heap.size ≤ W0.heap.size := Nat.le_trans BX.size hb0.size
 replace HA := Lib.hid (HA.out.ext hb0)
 replace HB := Lib.hid (HB.out.ext hb0)
 obtain ⟨p0, p1, p2⟩ := zc3 kW
 refine zqh (fun w hbw hd K Q' hK => ?_) (fun vrd0 => ?_)
 ·clear hd
  go_simp
  exact hK.out (.slice (some ⟨w.heap.size, 0, none⟩) 0 0) _ _ zpt zbm ⟨_, rfl⟩
 refine zqp ?_
 refine zqT (fun w hbw hd => ?_) ?_
 ·have q1 := cell_keep hbw p0 zW
  exact zgs
 refine zqh (fun w hbw hd K Q' hK => ?_) (fun vrd3 => ?_)
 ·obtain ⟨_, _, g, rfl⟩ : ∃ lo hi, LitE vrd0 lo hi w := hd 0 _ _ (by kernel_rfl) rfl rfl
  clear hd
  refine step_appF ctE rfl (.tmp 3) (.tmp 5) _ rfl rfl w g A c k0.cells.length k0.cells rfl (HA.out.ext hbw) la rfl rfl ?_
  intro A' c' y ho hy
  exact hK.out (.slice A' k0.cells.length c') _ _ zpt zbm ⟨A', c', rfl, ho⟩
 refine zqh (fun w hbw hd K Q' hK => ?_) (fun vrd4 => ?_)
 ·clear hd
  go_simp
  exact hK.out (.slice (some ⟨w.heap.size, 0, none⟩) 0 0) _ _ zpt zbm ⟨_, rfl⟩
 refine zqp ?_
 refine zqT (fun w hbw hd => ?_) ?_
 ·have q1 := cell_keep hbw p1 zW
  exact zgs
 refine zqh (fun w hbw hd K Q' hK => ?_) (fun vrd7 => ?_)
 ·obtain ⟨_, _, g, rfl⟩ : ∃ lo hi, LitE vrd4 lo hi w := hd 4 _ _ (by kernel_rfl) rfl rfl
  clear hd
  refine step_appF jbE rfl (.tmp 7) (.tmp 9) _ rfl rfl w g B d k0.jobs.length k0.jobs rfl (HB.out.ext hbw) lb rfl rfl ?_
  intro A' c' y ho hy
  exact hK.out (.slice A' k0.jobs.length c') _ _ zpt zbm ⟨A', c', rfl, ho⟩
 refine zqp ?_
 refine zqT (fun w hbw hd => ?_) ?_
 ·have q1 := cell_keep hbw p2 zW
  exact zgs
 refine zqF (.agg #[vrd3, vrd7, .int .i64 k0.room]) (fun w0 hd w => ?_) ?_
 ·obtain ⟨_, _, A', d', rfl, _⟩ : ∃ lo hi, ClnF ctE k0.cells k0.cells.length vrd3 lo hi w0 := hd 3 _ _ (by kernel_rfl) rfl rfl
  obtain ⟨_, _, B', d', rfl, _⟩ : ∃ lo hi, ClnF jbE k0.jobs k0.jobs.length vrd7 lo hi w0 := hd 7 _ _ (by kernel_rfl) rfl rfl
  exact zsr
 refine zql ?_
 refine chn_end (fun wz lo hi hbz hd hR => ?_)
 obtain ⟨A1, d1, rfl, o1⟩ : ClnF ctE k0.cells k0.cells.length vrd3 (lo 3) (hi 3) wz := hd 3 _ _ rfl rfl
 obtain ⟨A2, d2, rfl, o2⟩ : ClnF jbE k0.jobs k0.jobs.length vrd7 (lo 7) (hi 7) wz := hd 7 _ _ rfl rfl
 have r2 := (hR.2 3 _ rfl).1
 have r5 := (hR.2 7 _ rfl).1
 have zX1 : w.heap.size + 2 ≤ W0.heap.size := Nat.le_trans (by rw [hXs]; exact Nat.le_refl _) hb0.size
 have BZ : Below w.heap.size w wz := BX.trans ((hb0.trans (hbz.mono hb0.size)).mono BX.size)
 have kTz := kT0.below_ hbz kT0.lt
 have zTz := kTz.lt
 clear hd hR p0 p1 p2
 obtain ⟨y0, y1, y2⟩ := zc3 kTz
 obtain ⟨yf0, yf1, yf2, -⟩ := zf kTz
 refine late_one (by simp only [zy5, zy6, zy7]; rfl) (fun K Q' hK => ?_)
 go_simp
 refine hK.out _ ?_
 clear hK K Q'
 go_wp2_with fail
 obtain ⟨W, hW⟩ : ∃ W, setN wz (w.heap.size + 1) 0 [.slice A1 k0.cells.length d1, .slice A2 k0.jobs.length d2, .int .i64 k0.room] = W := ⟨_, rfl⟩
 have hWn : World.setCell (World.setCell (World.setCell wz ⟨w.heap.size + 1, 0, none⟩ (.slice A1 k0.cells.length d1)) ⟨w.heap.size + 1, 1, none⟩ (.slice A2 k0.jobs.length d2)) ⟨w.heap.size + 1, 2, none⟩ (.int .i64 k0.room) = W := hW
 have kW := zsw hW kTz
 have bW := zbw hW BZ (by omega)
 have o1W : OwnE ctE W (w.heap.size + 2) A1 d1 k0.cells := by rw [← hW]; exact (o1.base_ (by omega)).farN (by exact Nat.lt_succ_self _) _
 have o2W : OwnE jbE W (w.heap.size + 2) A2 d2 k0.jobs := by rw [← hW]; exact (o2.base_ (by omega)).farN (by exact Nat.lt_succ_self _) _
 rw [hWn]
 clear hWn hW y0 yf0 y1 yf1 y2 yf2
 refine bodyPost_ret (by simp [results, Tryz.results142, go_sem, zc3 kW] <;> rfl) rfl ?_
 exact ⟨A1, d1, A2, d2, rfl, o1W.base_ (by omega), o2W.base_ (by omega), bW⟩
end Go.Proofs.YthijbipidbjpfaaGreatDoor
