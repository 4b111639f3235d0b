import Derived.Test.YthijbipidbjpfaaGreatDoorZM20
import Derived.Test.YthijbipidbjpfaaGreatDoorZM00
import Derived.Test.YthijbipidbjpfaaGreatDoorZM17
import Derived.Test.YthijbipidbjpfaaGreatDoorZM04
import Derived.Test.YthijbipidbjpfaaGreatDoorZM03
import Derived.Test.YthijbipidbjpfaaGreatDoorZM06
import Derived.Test.YthijbipidbjpfaaGreatDoorZM10
import Derived.Test.YthijbipidbjpfaaGreatDoorZM13
set_option linter.unusedSimpArgs false
set_option linter.unusedVariables false
set_option maxRecDepth 100000
set_option maxHeartbeats 8000000
namespace Go.Proofs.YthijbipidbjpfaaGreatDoor
open Go.RowKit Go.Maps
theorem SR.slb {w : World} {A : Option Addr} {l : List Bool} (h : SR boolE w A l) : Sl w .bool A l := fun hp => by
 obtain ⟨b, off, e, hb, hc⟩ := h (SR.len_pos hp)
 refine ⟨b, off, e, hb, fun k x hx => ?_⟩
 have hk := (List.getElem?_eq_some_iff.1 hx).1
 obtain ⟨b', off', y, e', _, hy, hcy⟩ := SR.at_ h hk
 rw [e] at e'
 injection e' with e'; injection e' with e1 e2
 subst e1 e2
 rw [hx] at hy; cases hy
 have := hcy 0 (.bool x) rfl
 simpa [boolE] using this
theorem samePool_refl (A B : Option Addr) (c d : Nat) (p : Pol) (w : World) (ha : SR intE w A p.free) (hb : SR intE w B p.free) (hl : p.free.length ≤ 1000) :
  Calls Tryz.prog 71 #[.agg #[.int .i64 p.size, .slice A p.free.length c], .agg #[.int .i64 p.size, .slice B p.free.length d]] w fun e w' => e = .returned (.bool true) ∧ Below w.heap.size w w' := by
 have HA := Lib.hid ha; have HB := Lib.hid hb
 clear ha hb
 obtain ⟨X, hX⟩ : ∃ X, (w.alloc (.cells #[.int .i64 p.size, .slice A p.free.length c] 33)).alloc (.cells #[.int .i64 p.size, .slice B p.free.length d] 33) = X := ⟨_, rfl⟩
 have kX := za1 hX
 have kY := za2 hX
 have BX := zabb hX
 have zX := kX.lt
 have zY := kY.lt
 obtain ⟨p0, p1⟩ := zc2 kX
 obtain ⟨q0, q1⟩ := zc2 kY
 have b0 : (p.size == p.size) = true := by simp
 go_enter Tryz.func71, Tryz.ntmps71
 go_wp2_with fail
 (try rw [hX])
 clear hX
 have hC := SameInts_any A B c d p.free p.free X (HA.out.ext BX).sl (HB.out.ext BX).sl (by omega) (by omega)
 rw [decide_eq_true rfl] at hC
 refine hC.mono ?_
 rintro e1 w1 ⟨rfl, hb1⟩
 go_wp2_with fail
 go_ret
 exact ⟨rfl, BX.trans (hb1.mono BX.size)⟩
theorem sameSlots_refl (A0 A1 B0 B1 : Option Addr) (c0 c1 k0 k1 : Nat) (t : Sts) (w : World) (ha : SR intE w A0 t.refs) (ha1 : SR boolE w A1 t.busy) (hb : SR intE w B0 t.refs) (hb1 : SR boolE w B1 t.busy) (hl : t.refs.length ≤ 1000) (hl1 : t.busy.length ≤ 1000) :
  Calls Tryz.prog 70 #[.agg #[.slice A0 t.refs.length c0, .slice A1 t.busy.length c1], .agg #[.slice B0 t.refs.length k0, .slice B1 t.busy.length k1]] w fun e w' => e = .returned (.bool true) ∧ Below w.heap.size w w' := by
 have HA := Lib.hid ha; have HB := Lib.hid hb; have HA1 := Lib.hid ha1; have HB1 := Lib.hid hb1
 clear ha hb ha1 hb1
 obtain ⟨X, hX⟩ : ∃ X, (w.alloc (.cells #[.slice A0 t.refs.length c0, .slice A1 t.busy.length c1] 25)).alloc (.cells #[.slice B0 t.refs.length k0, .slice B1 t.busy.length k1] 25) = X := ⟨_, rfl⟩
 have kX := za1 hX
 have kY := za2 hX
 have BX := zabb hX
 have zX := kX.lt
 have zY := kY.lt
 obtain ⟨p0, p1⟩ := zc2 kX
 obtain ⟨q0, q1⟩ := zc2 kY
 go_enter Tryz.func70, Tryz.ntmps70
 go_wp2_with fail
 (try rw [hX])
 clear hX
 have hC := SameInts_any A0 B0 c0 k0 t.refs t.refs X (HA.out.ext BX).sl (HB.out.ext BX).sl (by omega) (by omega)
 rw [decide_eq_true rfl] at hC
 refine hC.mono ?_
 rintro e1 w1 ⟨rfl, hb1⟩
 replace kX := kX.below_ hb1 kX.lt
 replace kY := kY.below_ hb1 kY.lt
 have B1_ := BX.trans (hb1.mono BX.size)
 clear p0 p1 q0 q1 zX zY hC
 have zX := kX.lt
 have zY := kY.lt
 obtain ⟨p0, p1⟩ := zc2 kX
 obtain ⟨q0, q1⟩ := zc2 kY
 go_wp2_with fail
 have hC := SameBools_any A1 B1 c1 k1 t.busy t.busy w1 (HA1.out.ext B1_).slb (HB1.out.ext B1_).slb (by omega) (by omega)
 rw [decide_eq_true rfl] at hC
 refine hC.mono ?_
 rintro e2 w2 ⟨rfl, hb2⟩
 go_wp2_with fail
 go_ret
 exact ⟨rfl, B1_.trans (hb2.mono B1_.size)⟩
theorem sameDisk_refl (A0 A1 B0 B1 : Option Addr) (c0 c1 k0 k1 : Nat) (d : Dsk) (w : World) (ha : SR ctE w A0 d.cells) (ha1 : SR jbE w A1 d.jobs) (hb : SR ctE w B0 d.cells) (hb1 : SR jbE w B1 d.jobs) (hl0 : d.cells.length ≤ 1000) (hl1 : d.jobs.length ≤ 1000) :
  Calls Tryz.prog 72 #[.agg #[.slice A0 d.cells.length c0, .slice A1 d.jobs.length c1, .int .i64 d.room], .agg #[.slice B0 d.cells.length k0, .slice B1 d.jobs.length k1, .int .i64 d.room]] w fun e w' => e = .returned (.bool true) ∧ Below w.heap.size w w' := by
 have H0 := Lib.hid ha; have H1 := Lib.hid ha1; have H2 := Lib.hid hb; have H3 := Lib.hid hb1
 clear ha hb ha1 hb1
 have r0 : (d.room != d.room) = false := by simp
 have r1 : ((d.cells.length : Int) != d.cells.length) = false := by simp
 have r2 : ((d.jobs.length : Int) != d.jobs.length) = false := by simp
 obtain ⟨X, hX⟩ : ∃ X, (w.alloc (.cells #[.slice A0 d.cells.length c0, .slice A1 d.jobs.length c1, .int .i64 d.room] 31)).alloc (.cells #[.slice B0 d.cells.length k0, .slice B1 d.jobs.length k1, .int .i64 d.room] 31) = X := ⟨_, rfl⟩
 have kX := za1 hX
 have kY := za2 hX
 have BX := zabb hX
 have zX := kX.lt
 have zY := kY.lt
 obtain ⟨p0, p1, p2⟩ := zc3 kX
 obtain ⟨q0, q1, q2⟩ := zc3 kY
 replace H0 := Lib.hid (H0.out.ext BX)
 replace H1 := Lib.hid (H1.out.ext BX)
 replace H2 := Lib.hid (H2.out.ext BX)
 replace H3 := Lib.hid (H3.out.ext BX)
 go_enter Tryz.func72, Tryz.ntmps72
 go_wp2_with fail
 (try rw [hX])
 clear hX zX zY p0 q0 p1 q1 p2 q2
 go_loopw [5] (fun i wr => ∃ k : Nat, k ≤ d.cells.length ∧ i = .int .i64 k ∧ Below X.heap.size X wr) (fun i _ => d.cells.length - (intOf i).toNat)
 case atStart => exact ⟨0, by omega, rfl, Below.refl _ _⟩
 case round =>
  obtain ⟨k, hk, rfl, hbw⟩ := hrel
  have zX := kX.lt
  have zY := kY.lt
  have zw := hbw.size
  have p0 := cell_keep hbw (show X.cell? ⟨w.heap.size, 0, none⟩ = some (.slice A0 d.cells.length c0) by simpa using kX.cell_ 0) zX
  have q0 := cell_keep hbw (show X.cell? ⟨w.heap.size + 1, 0, none⟩ = some (.slice B0 d.cells.length k0) by simpa using kY.cell_ 0) zY
  have zX2 : w.heap.size < wr.heap.size := Nat.lt_of_lt_of_le zX zw
  have zY2 : w.heap.size + 1 < wr.heap.size := Nat.lt_of_lt_of_le zY zw
  by_cases hlt : k < d.cells.length
  ·obtain ⟨b, off, y, hA, hbl, hy, hc⟩ := (H0.out.ext hbw).at_ hlt
   obtain ⟨b2, off2, y2, hA2, hbl2, hy2, hc2⟩ := (H2.out.ext hbw).at_ hlt
   obtain rfl : y = y2 := Option.some.inj (hy.symm.trans hy2)
   (try dsimp only at hA hA2)
   subst hA hA2
   obtain ⟨x0, x1, x2, x3, x4, x5, x6, x7⟩ := y
   clear hy hy2
   have i1 : (k : Int) < d.cells.length := by omega
   have e0 : wr.cell? ⟨b, off + k * 8, none⟩ = some (.int .u64 x0) := hc 0 _ rfl
   have f0 : wr.cell? ⟨b2, off2 + k * 8, none⟩ = some (.int .u64 x0) := hc2 0 _ rfl
   have e1 : wr.cell? ⟨b, off + k * 8 + 1, none⟩ = some (.int .u64 x1) := hc 1 _ rfl
   have f1 : wr.cell? ⟨b2, off2 + k * 8 + 1, none⟩ = some (.int .u64 x1) := hc2 1 _ rfl
   have e2 : wr.cell? ⟨b, off + k * 8 + 2, none⟩ = some (.int .u64 x2) := hc 2 _ rfl
   have f2 : wr.cell? ⟨b2, off2 + k * 8 + 2, none⟩ = some (.int .u64 x2) := hc2 2 _ rfl
   have e3 : wr.cell? ⟨b, off + k * 8 + 3, none⟩ = some (.int .u64 x3) := hc 3 _ rfl
   have f3 : wr.cell? ⟨b2, off2 + k * 8 + 3, none⟩ = some (.int .u64 x3) := hc2 3 _ rfl
   have e4 : wr.cell? ⟨b, off + k * 8 + 4, none⟩ = some (.int .u64 x4) := hc 4 _ rfl
   have f4 : wr.cell? ⟨b2, off2 + k * 8 + 4, none⟩ = some (.int .u64 x4) := hc2 4 _ rfl
   have e5 : wr.cell? ⟨b, off + k * 8 + 5, none⟩ = some (.int .u64 x5) := hc 5 _ rfl
   have f5 : wr.cell? ⟨b2, off2 + k * 8 + 5, none⟩ = some (.int .u64 x5) := hc2 5 _ rfl
   have e6 : wr.cell? ⟨b, off + k * 8 + 6, none⟩ = some (.int .u64 x6) := hc 6 _ rfl
   have f6 : wr.cell? ⟨b2, off2 + k * 8 + 6, none⟩ = some (.int .u64 x6) := hc2 6 _ rfl
   have e7 : wr.cell? ⟨b, off + k * 8 + 7, none⟩ = some (.int .u64 x7) := hc 7 _ rfl
   have f7 : wr.cell? ⟨b2, off2 + k * 8 + 7, none⟩ = some (.int .u64 x7) := hc2 7 _ rfl
   clear hc hc2
   have heq : Hid (∀ W, (Op.equalIn 10000 38 (.agg (zkk x0 x1 x2 x3 x4 x5 x6 x7).toArray) (.agg (zkk x0 x1 x2 x3 x4 x5 x6 x7).toArray)).run Tryz.prog W = .ok true W) := fun W => (eq_ct W ⟨x0, x1, x2, x3, x4, x5, x6, x7⟩ ⟨x0, x1, x2, x3, x4, x5, x6, x7⟩).trans (by rw [decide_eq_true rfl])
   go_wp2_with fail
   refine wp_region_chain [.is ?fsct0, .is ?fsct1, .is ?fsct2, .is ?fsct3, .is ?fsct4, .is ?fsct5, .is ?fsct6, .is ?fsct7, .is ?fsct8, .is ?fsct9, .is ?fsct10] (by kernel_rfl) (by kernel_rfl) (by kernel_rfl) (lasts_is (lasts_is (lasts_is (lasts_is (lasts_is (lasts_is (lasts_is (lasts_is (lasts_is (lasts_is (lasts_is lasts_nil))))))))))) (fun W0 hb0 hz0 => ?_)
   rotate_left 11
   replace p0 := cell_keep hb0 p0 zX2
   replace q0 := cell_keep hb0 q0 zY2
   replace e0 := cell_keep hb0 e0 hbl
   replace e1 := cell_keep hb0 e1 hbl
   replace e2 := cell_keep hb0 e2 hbl
   replace e3 := cell_keep hb0 e3 hbl
   replace e4 := cell_keep hb0 e4 hbl
   replace e5 := cell_keep hb0 e5 hbl
   replace e6 := cell_keep hb0 e6 hbl
   replace e7 := cell_keep hb0 e7 hbl
   replace f0 := cell_keep hb0 f0 hbl2
   replace f1 := cell_keep hb0 f1 hbl2
   replace f2 := cell_keep hb0 f2 hbl2
   replace f3 := cell_keep hb0 f3 hbl2
   replace f4 := cell_keep hb0 f4 hbl2
   replace f5 := cell_keep hb0 f5 hbl2
   replace f6 := cell_keep hb0 f6 hbl2
   replace f7 := cell_keep hb0 f7 hbl2
   replace hbl := Nat.lt_of_lt_of_le hbl hb0.size
   replace hbl2 := Nat.lt_of_lt_of_le hbl2 hb0.size
   replace zX2 := Nat.lt_of_lt_of_le zX2 hb0.size
   replace zY2 := Nat.lt_of_lt_of_le zY2 hb0.size
   refine zot ?_
   refine zoT (fun w hbw hd => ?_) ?_
   ·have r0 := cell_keep hbw p0 zX2
    exact zgs
   refine zot ?_
   refine zot ?_
   refine zoT (fun w hbw hd => ?_) ?_
   ·have r0 := cell_keep hbw e0 hbl
    have r1 := cell_keep hbw e1 hbl
    have r2 := cell_keep hbw e2 hbl
    have r3 := cell_keep hbw e3 hbl
    have r4 := cell_keep hbw e4 hbl
    have r5 := cell_keep hbw e5 hbl
    have r6 := cell_keep hbw e6 hbl
    have r7 := cell_keep hbw e7 hbl
    exact zgs
   refine zot ?_
   refine zoT (fun w hbw hd => ?_) ?_
   ·have r0 := cell_keep hbw q0 zY2
    exact zgs
   refine zot ?_
   refine zot ?_
   refine zoT (fun w hbw hd => ?_) ?_
   ·have r0 := cell_keep hbw f0 hbl2
    have r1 := cell_keep hbw f1 hbl2
    have r2 := cell_keep hbw f2 hbl2
    have r3 := cell_keep hbw f3 hbl2
    have r4 := cell_keep hbw f4 hbl2
    have r5 := cell_keep hbw f5 hbl2
    have r6 := cell_keep hbw f6 hbl2
    have r7 := cell_keep hbw f7 hbl2
    exact zgs
   refine zoT (fun w hbw hd => ?_) ?_
   ·have hq := heq.out w
    exact zgs
   refine chain_end (fun wz hbz hd => ?_)
   go_wp2_with fail
   have bR : Below X.heap.size X wz := hbw.trans ((hb0.trans (hbz.mono hb0.size)).mono hbw.size)
   go_roundw
   case rel => exact ⟨k + 1, by omega, by go_num, bR⟩
   case measure => simp [intOf]; omega
  have i1 : ¬ ((k : Int) < d.cells.length) := by omega
  go_wp2_with fail
  obtain ⟨wr0, hwr0⟩ : ∃ V, V = wr := ⟨_, rfl⟩
  subst hwr0
  have hbw0 := hbw
  clear hbw
  have kX0 := kX.below_ hbw0 kX.lt
  have kY0 := kY.below_ hbw0 kY.lt
  replace H1 := Lib.hid (H1.out.ext hbw0)
  replace H3 := Lib.hid (H3.out.ext hbw0)
  clear i1 p0 q0 zX zY
  go_loopw [6] (fun i wr => ∃ k : Nat, k ≤ d.jobs.length ∧ i = .int .i64 k ∧ Below wr0.heap.size wr0 wr) (fun i _ => d.jobs.length - (intOf i).toNat)
  case atStart => exact ⟨0, by omega, rfl, Below.refl _ _⟩
  case round =>
   obtain ⟨k, hk, rfl, hbw⟩ := hrel
   have zX := kX0.lt
   have zY := kY0.lt
   have zw := hbw.size
   have p1 := cell_keep hbw (show wr0.cell? ⟨w.heap.size, 1, none⟩ = some (.slice A1 d.jobs.length c1) by simpa using kX0.cell_ 1) zX
   have q1 := cell_keep hbw (show wr0.cell? ⟨w.heap.size + 1, 1, none⟩ = some (.slice B1 d.jobs.length k1) by simpa using kY0.cell_ 1) zY
   have zX2 : w.heap.size < wr.heap.size := Nat.lt_of_lt_of_le zX zw
   have zY2 : w.heap.size + 1 < wr.heap.size := Nat.lt_of_lt_of_le zY zw
   by_cases hlt : k < d.jobs.length
   ·obtain ⟨b, off, y, hA, hbl, hy, hc⟩ := (H1.out.ext hbw).at_ hlt
    obtain ⟨b2, off2, y2, hA2, hbl2, hy2, hc2⟩ := (H3.out.ext hbw).at_ hlt
    obtain rfl : y = y2 := Option.some.inj (hy.symm.trans hy2)
    (try dsimp only at hA hA2)
    subst hA hA2
    obtain ⟨jw, js, jf, ⟨x0, x1, x2, x3, x4, x5, x6, x7⟩⟩ := y
    clear hy hy2
    have i1 : (k : Int) < d.jobs.length := by omega
    have e0 : wr.cell? ⟨b, off + k * 11, none⟩ = some (.bool jw) := hc 0 _ rfl
    have f0 : wr.cell? ⟨b2, off2 + k * 11, none⟩ = some (.bool jw) := hc2 0 _ rfl
    have e1 : wr.cell? ⟨b, off + k * 11 + 1, none⟩ = some (.int .i64 js) := hc 1 _ rfl
    have f1 : wr.cell? ⟨b2, off2 + k * 11 + 1, none⟩ = some (.int .i64 js) := hc2 1 _ rfl
    have e2 : wr.cell? ⟨b, off + k * 11 + 2, none⟩ = some (.int .i64 jf) := hc 2 _ rfl
    have f2 : wr.cell? ⟨b2, off2 + k * 11 + 2, none⟩ = some (.int .i64 jf) := hc2 2 _ rfl
    have e3 : wr.cell? ⟨b, off + k * 11 + 3, none⟩ = some (.int .u64 x0) := hc 3 _ rfl
    have f3 : wr.cell? ⟨b2, off2 + k * 11 + 3, none⟩ = some (.int .u64 x0) := hc2 3 _ rfl
    have e4 : wr.cell? ⟨b, off + k * 11 + 4, none⟩ = some (.int .u64 x1) := hc 4 _ rfl
    have f4 : wr.cell? ⟨b2, off2 + k * 11 + 4, none⟩ = some (.int .u64 x1) := hc2 4 _ rfl
    have e5 : wr.cell? ⟨b, off + k * 11 + 5, none⟩ = some (.int .u64 x2) := hc 5 _ rfl
    have f5 : wr.cell? ⟨b2, off2 + k * 11 + 5, none⟩ = some (.int .u64 x2) := hc2 5 _ rfl
    have e6 : wr.cell? ⟨b, off + k * 11 + 6, none⟩ = some (.int .u64 x3) := hc 6 _ rfl
    have f6 : wr.cell? ⟨b2, off2 + k * 11 + 6, none⟩ = some (.int .u64 x3) := hc2 6 _ rfl
    have e7 : wr.cell? ⟨b, off + k * 11 + 7, none⟩ = some (.int .u64 x4) := hc 7 _ rfl
    have f7 : wr.cell? ⟨b2, off2 + k * 11 + 7, none⟩ = some (.int .u64 x4) := hc2 7 _ rfl
    have e8 : wr.cell? ⟨b, off + k * 11 + 8, none⟩ = some (.int .u64 x5) := hc 8 _ rfl
    have f8 : wr.cell? ⟨b2, off2 + k * 11 + 8, none⟩ = some (.int .u64 x5) := hc2 8 _ rfl
    have e9 : wr.cell? ⟨b, off + k * 11 + 9, none⟩ = some (.int .u64 x6) := hc 9 _ rfl
    have f9 : wr.cell? ⟨b2, off2 + k * 11 + 9, none⟩ = some (.int .u64 x6) := hc2 9 _ rfl
    have e10 : wr.cell? ⟨b, off + k * 11 + 10, none⟩ = some (.int .u64 x7) := hc 10 _ rfl
    have f10 : wr.cell? ⟨b2, off2 + k * 11 + 10, none⟩ = some (.int .u64 x7) := hc2 10 _ rfl
    clear hc hc2
    have heq : Hid (∀ W, (Op.equalIn 9999 38 (.agg (zkk x0 x1 x2 x3 x4 x5 x6 x7).toArray) (.agg (zkk x0 x1 x2 x3 x4 x5 x6 x7).toArray)).run Tryz.prog W = .ok true W) := fun W => (eqIn_ct W ⟨x0, x1, x2, x3, x4, x5, x6, x7⟩ ⟨x0, x1, x2, x3, x4, x5, x6, x7⟩).trans (by rw [decide_eq_true rfl])
    go_wp2_with fail
    refine wp_region_chain [.is ?fsjb0, .is ?fsjb1, .is ?fsjb2, .is ?fsjb3, .is ?fsjb4, .is ?fsjb5, .is ?fsjb6, .is ?fsjb7, .is ?fsjb8, .is ?fsjb9, .is ?fsjb10] (by kernel_rfl) (by kernel_rfl) (by kernel_rfl) (lasts_is (lasts_is (lasts_is (lasts_is (lasts_is (lasts_is (lasts_is (lasts_is (lasts_is (lasts_is (lasts_is lasts_nil))))))))))) (fun W0 hb0 hz0 => ?_)
    rotate_left 11
    replace p1 := cell_keep hb0 p1 zX2
    replace q1 := cell_keep hb0 q1 zY2
    replace e0 := cell_keep hb0 e0 hbl
    replace e1 := cell_keep hb0 e1 hbl
    replace e2 := cell_keep hb0 e2 hbl
    replace e3 := cell_keep hb0 e3 hbl
    replace e4 := cell_keep hb0 e4 hbl
    replace e5 := cell_keep hb0 e5 hbl
    replace e6 := cell_keep hb0 e6 hbl
    replace e7 := cell_keep hb0 e7 hbl
    replace e8 := cell_keep hb0 e8 hbl
    replace e9 := cell_keep hb0 e9 hbl
    replace e10 := cell_keep hb0 e10 hbl
    replace f0 := cell_keep hb0 f0 hbl2
    replace f1 := cell_keep hb0 f1 hbl2
    replace f2 := cell_keep hb0 f2 hbl2
    replace f3 := cell_keep hb0 f3 hbl2
    replace f4 := cell_keep hb0 f4 hbl2
    replace f5 := cell_keep hb0 f5 hbl2
    replace f6 := cell_keep hb0 f6 hbl2
    replace f7 := cell_keep hb0 f7 hbl2
    replace f8 := cell_keep hb0 f8 hbl2
    replace f9 := cell_keep hb0 f9 hbl2
    replace f10 := cell_keep hb0 f10 hbl2
    replace hbl := Nat.lt_of_lt_of_le hbl hb0.size
    replace hbl2 := Nat.lt_of_lt_of_le hbl2 hb0.size
    replace zX2 := Nat.lt_of_lt_of_le zX2 hb0.size
    replace zY2 := Nat.lt_of_lt_of_le zY2 hb0.size
    refine zot ?_
    refine zoT (fun w hbw hd => ?_) ?_
    ·have r0 := cell_keep hbw p1 zX2
     exact zgs
    refine zot ?_
    refine zot ?_
    refine zoT (fun w hbw hd => ?_) ?_
    ·have r0 := cell_keep hbw e0 hbl
     have r1 := cell_keep hbw e1 hbl
     have r2 := cell_keep hbw e2 hbl
     have r3 := cell_keep hbw e3 hbl
     have r4 := cell_keep hbw e4 hbl
     have r5 := cell_keep hbw e5 hbl
     have r6 := cell_keep hbw e6 hbl
     have r7 := cell_keep hbw e7 hbl
     have r8 := cell_keep hbw e8 hbl
     have r9 := cell_keep hbw e9 hbl
     have r10 := cell_keep hbw e10 hbl
     exact zgs
    refine zot ?_
    refine zoT (fun w hbw hd => ?_) ?_
    ·have r0 := cell_keep hbw q1 zY2
     exact zgs
    refine zot ?_
    refine zot ?_
    refine zoT (fun w hbw hd => ?_) ?_
    ·have r0 := cell_keep hbw f0 hbl2
     have r1 := cell_keep hbw f1 hbl2
     have r2 := cell_keep hbw f2 hbl2
     have r3 := cell_keep hbw f3 hbl2
     have r4 := cell_keep hbw f4 hbl2
     have r5 := cell_keep hbw f5 hbl2
     have r6 := cell_keep hbw f6 hbl2
     have r7 := cell_keep hbw f7 hbl2
     have r8 := cell_keep hbw f8 hbl2
     have r9 := cell_keep hbw f9 hbl2
     have r10 := cell_keep hbw f10 hbl2
     exact zgs
    refine zoT (fun w hbw hd => ?_) ?_
    ·have hq := heq.out w
     exact zgs
    refine chain_end (fun wz hbz hd => ?_)
    go_wp2_with fail
    have bR : Below wr0.heap.size wr0 wz := hbw.trans ((hb0.trans (hbz.mono hb0.size)).mono hbw.size)
    go_roundw
    case rel => exact ⟨k + 1, by omega, by go_num, bR⟩
    case measure => simp [intOf]; omega
   have i1 : ¬ ((k : Int) < d.jobs.length) := by omega
   go_wp2_with fail
   go_ret
   exact ⟨rfl, BX.trans ((hbw0.trans (hbw.mono hbw0.size)).mono BX.size)⟩
theorem sameSwap_refl (L M : Lay) (s : Swp) (w : World) (ha : SwR w L s) (hb : SwR w M s) (hf : Few s) :
  Calls Tryz.prog 21 #[swV L s, swV M s] w fun e w' => e = .returned (.bool true) ∧ Below w.heap.size w w' := by
 obtain ⟨a0, c0, a1, c1, a2, c2, a3, c3, a4, c4, a5, c5, a6, c6, a7, c7⟩ := L
 obtain ⟨b0, k0, b1, k1, b2, k2, b3, k3, b4, k4, b5, k5, b6, k6, b7, k7⟩ := M
 have hl2 := hf.f2
 have hl3 := hf.f3
 have HA := Lib.hid ha; have HB := Lib.hid hb; have HF := Lib.hid hf
 clear ha hb hf
 unfold swV swC
 dsimp only
 obtain ⟨X, hX⟩ : ∃ X, (w.alloc (.cells (zkx s a0 c0 a1 c1 a2 c2 a3 c3 a4 c4 a5 c5 a6 c6 a7 c7).toArray 35)).alloc (.cells (zkx s b0 k0 b1 k1 b2 k2 b3 k3 b4 k4 b5 k5 b6 k6 b7 k7).toArray 35) = X := ⟨_, rfl⟩
 have kX := za1 hX
 have kY := za2 hX
 have BX := zabb hX
 have zX := kX.lt
 have zY := kY.lt
 obtain ⟨p0, p1, p2, p3, p4, p5, p6, p7, p8, p9, p10⟩ := zc11 kX
 obtain ⟨q0, q1, q2, q3, q4, q5, q6, q7, q8, q9, q10⟩ := zc11 kY
 have hq0 : (s.cap != s.cap) = false := by simp
 have hq1 : ((s.wr.length : Int) != s.wr.length) = false := by simp
 have hq2 : ((s.rd.length : Int) != s.rd.length) = false := by simp
 go_enter Tryz.func21, Tryz.ntmps21
 go_wp2_with fail
 (try rw [hX])
 clear hX
 have hC := sameSlots_refl a0 a1 b0 b1 c0 c1 k0 k1 s.sl X (HA.out.ext BX).r0 (HA.out.ext BX).r1 (HB.out.ext BX).r0 (HB.out.ext BX).r1 (by have := HF.out.f0; omega) (by have := HF.out.f1; omega)
 refine hC.mono ?_
 clear hC
 rintro e1 w1 ⟨rfl, hb1⟩
 have B1 := BX.trans (hb1.mono BX.size)
 replace kX := kX.below_ hb1 kX.lt
 replace kY := kY.below_ hb1 kY.lt
 clear hb1 p0 q0 p1 q1 p2 q2 p3 q3 p4 q4 p5 q5 p6 q6 p7 q7 p8 q8 p9 q9 p10 q10 zX zY
 have zX := kX.lt
 have zY := kY.lt
 obtain ⟨p0, p1, p2, p3, p4, p5, p6, p7, p8, p9, p10⟩ := zc11 kX
 obtain ⟨q0, q1, q2, q3, q4, q5, q6, q7, q8, q9, q10⟩ := zc11 kY
 go_wp2_with fail
 have hC := SameInts_any a4 b4 c4 k4 s.desc s.desc w1 (HA.out.ext B1).r4.sl (HB.out.ext B1).r4.sl (by have := HF.out.f4; omega) (by have := HF.out.f4; omega)
 rw [decide_eq_true rfl] at hC
 refine hC.mono ?_
 clear hC
 rintro e2 w2 ⟨rfl, hb2⟩
 have B2 := B1.trans (hb2.mono B1.size)
 replace kX := kX.below_ hb2 kX.lt
 replace kY := kY.below_ hb2 kY.lt
 clear hb2 p0 q0 p1 q1 p2 q2 p3 q3 p4 q4 p5 q5 p6 q6 p7 q7 p8 q8 p9 q9 p10 q10 zX zY
 have zX := kX.lt
 have zY := kY.lt
 obtain ⟨p0, p1, p2, p3, p4, p5, p6, p7, p8, p9, p10⟩ := zc11 kX
 obtain ⟨q0, q1, q2, q3, q4, q5, q6, q7, q8, q9, q10⟩ := zc11 kY
 go_wp2_with fail
 have hC := samePool_refl a7 b7 c7 k7 s.po w2 (HA.out.ext B2).r7 (HB.out.ext B2).r7 HF.out.f7
 refine hC.mono ?_
 clear hC
 rintro e3 w3 ⟨rfl, hb3⟩
 have B3 := B2.trans (hb3.mono B2.size)
 replace kX := kX.below_ hb3 kX.lt
 replace kY := kY.below_ hb3 kY.lt
 clear hb3 p0 q0 p1 q1 p2 q2 p3 q3 p4 q4 p5 q5 p6 q6 p7 q7 p8 q8 p9 q9 p10 q10 zX zY
 have zX := kX.lt
 have zY := kY.lt
 obtain ⟨p0, p1, p2, p3, p4, p5, p6, p7, p8, p9, p10⟩ := zc11 kX
 obtain ⟨q0, q1, q2, q3, q4, q5, q6, q7, q8, q9, q10⟩ := zc11 kY
 go_wp2_with fail
 have hC := sameDisk_refl a5 a6 b5 b6 c5 c6 k5 k6 s.dk w3 (HA.out.ext B3).r5 (HA.out.ext B3).r6 (HB.out.ext B3).r5 (HB.out.ext B3).r6 HF.out.f5 HF.out.f6
 refine hC.mono ?_
 clear hC
 rintro e4 w4 ⟨rfl, hb4⟩
 have B4 := B3.trans (hb4.mono B3.size)
 replace kX := kX.below_ hb4 kX.lt
 replace kY := kY.below_ hb4 kY.lt
 clear hb4 p0 q0 p1 q1 p2 q2 p3 q3 p4 q4 p5 q5 p6 q6 p7 q7 p8 q8 p9 q9 p10 q10 zX zY
 have HV : Hid (SR wrE w4 a2 s.wr) := (HA.out.ext B4).r2
 have HV2 : Hid (SR wrE w4 b2 s.wr) := (HB.out.ext B4).r2
 go_wp2_with fail
 go_loopw [5] (fun i wr => ∃ k : Nat, k ≤ s.wr.length ∧ i = .int .i64 k ∧ Below w4.heap.size w4 wr) (fun i _ => s.wr.length - (intOf i).toNat)
 case atStart => exact ⟨0, by omega, rfl, Below.refl _ _⟩
 case round =>
  obtain ⟨k, hk, rfl, hbw⟩ := hrel
  have zX := kX.lt
  have zY := kY.lt
  have zw := hbw.size
  have p3 := cell_keep hbw (show w4.cell? ⟨w.heap.size, 3, none⟩ = some (.slice a2 s.wr.length c2) by simpa using kX.cell_ 3) zX
  have q3 := cell_keep hbw (show w4.cell? ⟨w.heap.size + 1, 3, none⟩ = some (.slice b2 s.wr.length k2) by simpa using kY.cell_ 3) zY
  have zX2 : w.heap.size < wr.heap.size := Nat.lt_of_lt_of_le zX zw
  have zY2 : w.heap.size + 1 < wr.heap.size := Nat.lt_of_lt_of_le zY zw
  by_cases hlt : k < s.wr.length
  ·obtain ⟨b, off, y, hA, hbl, hy, hc⟩ := (HV.out.ext hbw).at_ hlt
   obtain ⟨b2, off2, y2, hA2, hbl2, hy2, hc2⟩ := (HV2.out.ext hbw).at_ hlt
   obtain rfl : y = y2 := Option.some.inj (hy.symm.trans hy2)
   (try dsimp only at hA hA2)
   subst hA hA2
   obtain ⟨s0, s1, s2⟩ := y
   clear hy hy2
   have i1 : (k : Int) < s.wr.length := by omega
   have e0 : wr.cell? ⟨b, off + k * 3, none⟩ = some (.int .i64 s0) := hc 0 _ rfl
   have f0 : wr.cell? ⟨b2, off2 + k * 3, none⟩ = some (.int .i64 s0) := hc2 0 _ rfl
   have e1 : wr.cell? ⟨b, off + k * 3 + 1, none⟩ = some (.int .i64 s1) := hc 1 _ rfl
   have f1 : wr.cell? ⟨b2, off2 + k * 3 + 1, none⟩ = some (.int .i64 s1) := hc2 1 _ rfl
   have e2 : wr.cell? ⟨b, off + k * 3 + 2, none⟩ = some (.int .i64 s2) := hc 2 _ rfl
   have f2 : wr.cell? ⟨b2, off2 + k * 3 + 2, none⟩ = some (.int .i64 s2) := hc2 2 _ rfl
   clear hc hc2
   have heq : Hid (∀ W, (Op.equalIn 10000 106 (.agg #[.int .i64 s0, .int .i64 s1, .int .i64 s2]) (.agg #[.int .i64 s0, .int .i64 s1, .int .i64 s2])).run Tryz.prog W = .ok true W) := fun W => (eq_wr W ⟨s0, s1, s2⟩ ⟨s0, s1, s2⟩).trans (by rw [decide_eq_true rfl])
   go_wp2_with fail
   refine wp_region_chain [.is ?fswr0, .is ?fswr1, .is ?fswr2, .is ?fswr3, .is ?fswr4, .is ?fswr5, .is ?fswr6, .is ?fswr7, .is ?fswr8, .is ?fswr9, .is ?fswr10] (by kernel_rfl) (by kernel_rfl) (by kernel_rfl) (lasts_is (lasts_is (lasts_is (lasts_is (lasts_is (lasts_is (lasts_is (lasts_is (lasts_is (lasts_is (lasts_is lasts_nil))))))))))) (fun W0 hb0 hz0 => ?_)
   rotate_left 11
   replace p3 := cell_keep hb0 p3 zX2
   replace q3 := cell_keep hb0 q3 zY2
   replace e0 := cell_keep hb0 e0 hbl
   replace e1 := cell_keep hb0 e1 hbl
   replace e2 := cell_keep hb0 e2 hbl
   replace f0 := cell_keep hb0 f0 hbl2
   replace f1 := cell_keep hb0 f1 hbl2
   replace f2 := cell_keep hb0 f2 hbl2
   replace hbl := Nat.lt_of_lt_of_le hbl hb0.size
   replace hbl2 := Nat.lt_of_lt_of_le hbl2 hb0.size
   replace zX2 := Nat.lt_of_lt_of_le zX2 hb0.size
   replace zY2 := Nat.lt_of_lt_of_le zY2 hb0.size
   refine zot ?_
   refine zoT (fun w hbw hd => ?_) ?_
   ·have r0 := cell_keep hbw p3 zX2
    exact zgs
   refine zot ?_
   refine zot ?_
   refine zoT (fun w hbw hd => ?_) ?_
   ·have r0 := cell_keep hbw e0 hbl
    have r1 := cell_keep hbw e1 hbl
    have r2 := cell_keep hbw e2 hbl
    exact zgs
   refine zot ?_
   refine zoT (fun w hbw hd => ?_) ?_
   ·have r0 := cell_keep hbw q3 zY2
    exact zgs
   refine zot ?_
   refine zot ?_
   refine zoT (fun w hbw hd => ?_) ?_
   ·have r0 := cell_keep hbw f0 hbl2
    have r1 := cell_keep hbw f1 hbl2
    have r2 := cell_keep hbw f2 hbl2
    exact zgs
   refine zoT (fun w hbw hd => ?_) ?_
   ·have hq := heq.out w
    exact zgs
   refine chain_end (fun wz hbz hd => ?_)
   go_wp2_with fail
   have bR : Below w4.heap.size w4 wz := hbw.trans ((hb0.trans (hbz.mono hb0.size)).mono hbw.size)
   go_roundw
   case rel => exact ⟨k + 1, by omega, by go_num, bR⟩
   case measure => simp [intOf]; omega
  have i1 : ¬ ((k : Int) < s.wr.length) := by omega
  go_wp2_with fail
  obtain ⟨wr0, hwr0⟩ : ∃ V, V = wr := ⟨_, rfl⟩
  subst hwr0
  have hbw0 := hbw
  clear hbw
  have kX0 := kX.below_ hbw0 kX.lt
  have kY0 := kY.below_ hbw0 kY.lt
  have HR : Hid (SR rdE wr0 a3 s.rd) := (HA.out.ext (B4.trans (hbw0.mono B4.size))).r3
  have HR2 : Hid (SR rdE wr0 b3 s.rd) := (HB.out.ext (B4.trans (hbw0.mono B4.size))).r3
  clear i1 p3 q3 zX zY
  go_loopw [6] (fun i wr => ∃ k : Nat, k ≤ s.rd.length ∧ i = .int .i64 k ∧ Below wr0.heap.size wr0 wr) (fun i _ => s.rd.length - (intOf i).toNat)
  case atStart => exact ⟨0, by omega, rfl, Below.refl _ _⟩
  case round =>
   obtain ⟨k, hk, rfl, hbw⟩ := hrel
   have zX := kX0.lt
   have zY := kY0.lt
   have zw := hbw.size
   have p4 := cell_keep hbw (show wr0.cell? ⟨w.heap.size, 4, none⟩ = some (.slice a3 s.rd.length c3) by simpa using kX0.cell_ 4) zX
   have q4 := cell_keep hbw (show wr0.cell? ⟨w.heap.size + 1, 4, none⟩ = some (.slice b3 s.rd.length k3) by simpa using kY0.cell_ 4) zY
   have zX2 : w.heap.size < wr.heap.size := Nat.lt_of_lt_of_le zX zw
   have zY2 : w.heap.size + 1 < wr.heap.size := Nat.lt_of_lt_of_le zY zw
   by_cases hlt : k < s.rd.length
   ·obtain ⟨b, off, y, hA, hbl, hy, hc⟩ := (HR.out.ext hbw).at_ hlt
    obtain ⟨b2, off2, y2, hA2, hbl2, hy2, hc2⟩ := (HR2.out.ext hbw).at_ hlt
    obtain rfl : y = y2 := Option.some.inj (hy.symm.trans hy2)
    (try dsimp only at hA hA2)
    subst hA hA2
    obtain ⟨s0, s1, s2⟩ := y
    clear hy hy2
    have i1 : (k : Int) < s.rd.length := by omega
    have e0 : wr.cell? ⟨b, off + k * 3, none⟩ = some (.int .i64 s0) := hc 0 _ rfl
    have f0 : wr.cell? ⟨b2, off2 + k * 3, none⟩ = some (.int .i64 s0) := hc2 0 _ rfl
    have e1 : wr.cell? ⟨b, off + k * 3 + 1, none⟩ = some (.int .i64 s1) := hc 1 _ rfl
    have f1 : wr.cell? ⟨b2, off2 + k * 3 + 1, none⟩ = some (.int .i64 s1) := hc2 1 _ rfl
    have e2 : wr.cell? ⟨b, off + k * 3 + 2, none⟩ = some (.int .i64 s2) := hc 2 _ rfl
    have f2 : wr.cell? ⟨b2, off2 + k * 3 + 2, none⟩ = some (.int .i64 s2) := hc2 2 _ rfl
    clear hc hc2
    have heq : Hid (∀ W, (Op.equalIn 10000 100 (.agg #[.int .i64 s0, .int .i64 s1, .int .i64 s2]) (.agg #[.int .i64 s0, .int .i64 s1, .int .i64 s2])).run Tryz.prog W = .ok true W) := fun W => (eq_rd W ⟨s0, s1, s2⟩ ⟨s0, s1, s2⟩).trans (by rw [decide_eq_true rfl])
    go_wp2_with fail
    refine wp_region_chain [.is ?fsrd0, .is ?fsrd1, .is ?fsrd2, .is ?fsrd3, .is ?fsrd4, .is ?fsrd5, .is ?fsrd6, .is ?fsrd7, .is ?fsrd8, .is ?fsrd9, .is ?fsrd10] (by kernel_rfl) (by kernel_rfl) (by kernel_rfl) (lasts_is (lasts_is (lasts_is (lasts_is (lasts_is (lasts_is (lasts_is (lasts_is (lasts_is (lasts_is (lasts_is lasts_nil))))))))))) (fun W0 hb0 hz0 => ?_)
    rotate_left 11
    replace p4 := cell_keep hb0 p4 zX2
    replace q4 := cell_keep hb0 q4 zY2
    replace e0 := cell_keep hb0 e0 hbl
    replace e1 := cell_keep hb0 e1 hbl
    replace e2 := cell_keep hb0 e2 hbl
    replace f0 := cell_keep hb0 f0 hbl2
    replace f1 := cell_keep hb0 f1 hbl2
    replace f2 := cell_keep hb0 f2 hbl2
    replace hbl := Nat.lt_of_lt_of_le hbl hb0.size
    replace hbl2 := Nat.lt_of_lt_of_le hbl2 hb0.size
    replace zX2 := Nat.lt_of_lt_of_le zX2 hb0.size
    replace zY2 := Nat.lt_of_lt_of_le zY2 hb0.size
    refine zot ?_
    refine zoT (fun w hbw hd => ?_) ?_
    ·have r0 := cell_keep hbw p4 zX2
     exact zgs
    refine zot ?_
    refine zot ?_
    refine zoT (fun w hbw hd => ?_) ?_
    ·have r0 := cell_keep hbw e0 hbl
     have r1 := cell_keep hbw e1 hbl
     have r2 := cell_keep hbw e2 hbl
     exact zgs
    refine zot ?_
    refine zoT (fun w hbw hd => ?_) ?_
    ·have r0 := cell_keep hbw q4 zY2
     exact zgs
    refine zot ?_
    refine zot ?_
    refine zoT (fun w hbw hd => ?_) ?_
    ·have r0 := cell_keep hbw f0 hbl2
     have r1 := cell_keep hbw f1 hbl2
     have r2 := cell_keep hbw f2 hbl2
     exact zgs
    refine zoT (fun w hbw hd => ?_) ?_
    ·have hq := heq.out w
     exact zgs
    refine chain_end (fun wz hbz hd => ?_)
    go_wp2_with fail
    have bR : Below wr0.heap.size wr0 wz := hbw.trans ((hb0.trans (hbz.mono hb0.size)).mono hbw.size)
    go_roundw
    case rel => exact ⟨k + 1, by omega, by go_num, bR⟩
    case measure => simp [intOf]; omega
   have i1 : ¬ ((k : Int) < s.rd.length) := by omega
   go_wp2_with fail
   go_ret
   exact ⟨rfl, B4.trans ((hbw0.trans (hbw.mono hbw0.size)).mono B4.size)⟩
theorem rpNew_any (n : Int) (w : World) : Calls Tryz.prog 78 #[.int .i64 n] w (PoPost (newP n) w) := by
 by_cases h : n < 1 ∨ 32 < n
 ·have HR : Hid (newP n = (.zero, 2)) := by show _ = _; unfold newP; rw [if_pos h]
  rcases h with h | h
  ·have g1 : ¬ (1 ≤ n) := by omega
   go_enter Tryz.func78, Tryz.ntmps78
   go_wp2
   refine bodyPost_ret (by simp [results, Tryz.results78, go_sem] <;> rfl) rfl ?_
   unfold PoPost
   rw [HR.out]
   exact ⟨none, 0, rfl, OwnE.nil, zbl⟩
  ·by_cases h1 : n < 1
   ·omega
   ·have g1 : 1 ≤ n := by omega
    have g2 : ¬ (n ≤ 32) := by omega
    go_enter Tryz.func78, Tryz.ntmps78
    go_wp2
    refine bodyPost_ret (by simp [results, Tryz.results78, go_sem] <;> rfl) rfl ?_
    unfold PoPost
    rw [HR.out]
    exact ⟨none, 0, rfl, OwnE.nil, zbl⟩
 ·have HR : Hid (newP n = (⟨n, rngP n.toNat⟩, 0)) := by show _ = _; unfold newP; rw [if_neg h]; rfl
  have h1 : ¬ n < 1 := by omega
  have h2 : ¬ 32 < n := by omega
  have g1 : 1 ≤ n := by omega
  have g2 : n ≤ 32 := by omega
  clear h
  go_enter Tryz.func78, Tryz.ntmps78
  go_wp2
  obtain ⟨V, hV⟩ : ∃ V, (w.alloc (.cells #[.int .i64 0, .slice none 0 0] 33)).alloc (.cells #[.int .i64 n, .slice none 0 0] 33) = V := ⟨_, rfl⟩
  have BV : Below w.heap.size w V := by rw [← hV]; exact zbl
  have kT := za1 hV
  have kB := za2 hV
  have zV : V.heap.size = w.heap.size + 2 := by rw [← hV]; simp
  rw [hV]
  clear hV
  obtain ⟨m, rfl⟩ : ∃ m : Nat, n = m := ⟨n.toNat, by omega⟩
  go_loopw [5] (fun i wr => ∃ (k : Nat) (A : Option Addr) (c : Nat) (zs : List Int), k ≤ m ∧ i = .int .i64 k ∧ Hid (zs = rngP k) ∧ Hid (OwnR intE wr V.heap.size (.slice A zs.length c) zs) ∧ Blk wr w.heap.size 33 #[.int .i64 0, .slice none 0 0] ∧ Blk wr (w.heap.size + 1) 33 #[.int .i64 m, .slice A k c] ∧ Below w.heap.size w wr ∧ V.heap.size ≤ wr.heap.size) (fun i _ => m - (intOf i).toNat)
  case atStart => exact ⟨0, none, 0, [], by omega, rfl, rfl, OwnR.nil, kT, kB, BV, Nat.le_refl _⟩
  case round =>
   obtain ⟨k, A, c, zs, hk, rfl, HZ, HO, kT1, kB1, hb, hz⟩ := hrel
   have HL : Hid (zs.length = k) := by show _ = _; rw [HZ.out, rngP_len]
   have b0 := zc kB1 0
   have b1 := zc kB1 1
   have zw : w.heap.size + 1 < wr.heap.size := by omega
   by_cases hlt : k < m
   ·have i1 : (k : Int) < m := by omega
    have H1 : Hid ((zs ++ [(k : Int)]).length = k + 1) := by show _ = _; simp [HL.out]
    have HZ1 : Hid (zs ++ [(k : Int)] = rngP (k + 1)) := by show _ = _; rw [HZ.out, rngP_succ]
    go_wp2_with (at_builtin; refine wpList_ownR intE rfl (.tmp 18) (.tmp 20) _ rfl rfl _ V.heap.size (by simp; omega) A c k zs HL.out.symm (HO.out.ext zbl) (some ⟨wr.heap.size, 0, none⟩) 1 1 [(k : Int)] rfl (SR.of_blk (E := intE) (l := [(k : Int)]) (t := 3) (Blk.new_ (by simp) rfl)) (by simp) (by simp; have := HL.out; omega) rfl rfl ?_; rw [H1.out]; intro A5 c5 w5 hO5 hb5 hg5; have hb5w : Below V.heap.size wr w5 := (Below.trans ((Below.refl _ wr).alloc hz _) hb5); have kB5 := kB1.below_ hb5w (by omega); have kT5 := kT1.below_ hb5w (by omega); have f5 := kB5.frozen_ 1; have c5' : w5.cell? ⟨w.heap.size + 1, 1, none⟩ = some (.slice A k c) := by simpa using kB5.cell_ 1)
    have hO6 : OwnR intE w5 V.heap.size (.slice A5 (zs ++ [(k : Int)]).length c5) (zs ++ [(k : Int)]) := by rw [H1.out]; exact hO5
    have b5 : Below w.heap.size w w5 := hb.trans (hb5w.mono (by omega))
    refine ⟨⟨k + 1, A5, c5, zs ++ [(k : Int)], by omega, by go_num, HZ1, hO6.far (p := ⟨w.heap.size + 1, 1, none⟩) _ (by show w.heap.size + 1 < _; omega), kT5.far_ (by simp) _, by simpa using kB5.set_ 1 (.slice A5 (k + 1) c5), zbl, ?_⟩, by simp [intOf]; omega⟩
    have := hb5w.size
    simp [World.setCell]
    omega
   ·obtain rfl : k = m := by omega
    have q0 := zc kT1 0
    have q1 := zc kT1 1
    obtain ⟨q2, q3, -⟩ := zf kT1
    have zw0 : w.heap.size < wr.heap.size := by omega
    go_wp2
    obtain ⟨W, hW⟩ : ∃ W, (wr.setCell ⟨w.heap.size, 0, none⟩ (.int .i64 k)).setCell ⟨w.heap.size, 1, none⟩ (.slice A k c) = W := ⟨_, rfl⟩
    have kW : Blk W w.heap.size 33 #[.int .i64 k, .slice A k c] := by rw [← hW]; exact (kT1.set_ 0 _).set_ 1 _
    have bW : Below w.heap.size w W := by rw [← hW]; exact zbl
    have hO6 := (HO.out.far (p := ⟨w.heap.size, 0, none⟩) (.int .i64 k) (by show w.heap.size < _; omega)).far (p := ⟨w.heap.size, 1, none⟩) (.slice A k c) (by show w.heap.size < _; omega)
    rw [hW] at hO6 ⊢
    clear hW q0 q1
    refine bodyPost_ret (by simp [results, Tryz.results78, go_sem, zc2 kW] <;> rfl) rfl ?_
    unfold PoPost
    rw [HR.out]
    refine ⟨A, c, ?_, ?_, bW⟩
    ·simp [poV, rngP_len]
    ·have := (OwnE.of_own hO6 rfl).base_ (base' := w.heap.size) (by omega)
     rw [HZ.out] at this
     simpa using this
theorem rsNew_any (N : Int) (w : World) (hn : N ≤ 40 ∨ 256 < N) : Calls Tryz.prog 76 #[.int .i64 N] w (StPost (newT N).1 [.int .i64 (newT N).2] w) := by
 have B0 : Below w.heap.size w (w.alloc (.cells #[.slice none 0 0, .slice none 0 0] 25)) := zbl
 by_cases h1 : N < 1
 ·have HE : Hid (newT N = (.zero, 2)) := by show _ = _; unfold newT; rw [if_pos (.inl h1)]
  have h1b : decide (N < 1) = true := by simpa using h1
  rw [HE.out]
  go_enter Tryz.func76, Tryz.ntmps76
  go_wp2_with fail
  refine bodyPost_ret (by simp [results, Tryz.results76, go_sem] <;> rfl) rfl ?_
  exact StPost.zero B0
 ·by_cases h2 : 256 < N
  ·have HE : Hid (newT N = (.zero, 2)) := by show _ = _; unfold newT; rw [if_pos (.inr h2)]
   have h1b : decide (N < 1) = false := by simpa using h1
   have h2b : decide (N > 256) = true := by simpa using h2
   rw [HE.out]
   go_enter Tryz.func76, Tryz.ntmps76
   go_wp2_with fail
   refine bodyPost_ret (by simp [results, Tryz.results76, go_sem] <;> rfl) rfl ?_
   exact StPost.zero B0
  ·obtain ⟨n, rfl⟩ : ∃ n : Nat, N = n := ⟨N.toNat, by omega⟩
   have hm : n ≤ 40 := by omega
   have HE : Hid (newT n = (⟨List.replicate n 0, List.replicate n false⟩, 0)) := by show _ = _; unfold newT; rw [if_neg (by omega)]; simp
   have h1b : decide ((n : Int) < 1) = false := by simpa using h1
   have h2b : decide ((n : Int) > 256) = false := by simpa using h2
   rw [HE.out]
   have hmI := fun (W : World) => run_mkR intE 0 (by rfl) n (by omega) W
   have hmB := fun (W : World) => run_mkR boolE false (by rfl) n (by omega) W
   replace hmI : ∀ W : World, (Instr.makeSlice 22 (.int .i64 n) (.int .i64 n)).run Tryz.prog W = .ok (.slice (some ⟨W.heap.size, 0, none⟩) n n) (W.alloc (.cells (intE.flat (List.replicate n 0)).toArray 3)) := hmI
   replace hmB : ∀ W : World, (Instr.makeSlice 23 (.int .i64 n) (.int .i64 n)).run Tryz.prog W = .ok (.slice (some ⟨W.heap.size, 0, none⟩) n n) (W.alloc (.cells (boolE.flat (List.replicate n false)).toArray 4)) := hmB
   go_enter Tryz.func76, Tryz.ntmps76
   go_wp2_with fail
   refine zrg [0, 2, 0, 2, 0, 3, 0] [[], [], [], [], [1, 3], [], []] [.is ?_, .has (MkF intE (List.replicate n 0) n), .is ?_, .has (MkF boolE (List.replicate n false) n), .fn [1, 3] (fun l => .agg #[l.getD 0 undef, l.getD 1 undef]), .late, .is ?_] [5] (lts_is (lts_has (MkF.lasts intE (List.replicate n 0) n) (lts_is (lts_has (MkF.lasts boolE (List.replicate n false) n) (lts_fn (lts_late (lts_is lts_nil))))))) (fun W0 hb0 hz0 => ?_)
   rotate_left 3
   refine zqp ?_
   refine zqh (fun w hbw hd K Q' hK => ?_) (fun vnw1 => ?_)
   ·clear hd
    go_simp
    exact hK.out (.slice (some ⟨w.heap.size, 0, none⟩) n n) _ _ zpt zbm ⟨_, rfl, OwnR.made intE 0 n (by omega) _ (Nat.le_refl _), by simp, Nat.le_refl _⟩
   refine zqp ?_
   refine zqh (fun w hbw hd K Q' hK => ?_) (fun vnw3 => ?_)
   ·clear hd
    go_simp
    exact hK.out (.slice (some ⟨w.heap.size, 0, none⟩) n n) _ _ zpt zbm ⟨_, rfl, OwnR.made boolE false n (by omega) _ (Nat.le_refl _), by simp, Nat.le_refl _⟩
   refine zqF (.agg #[vnw1, vnw3]) (fun w0 hd w => ?_) ?_
   ·obtain ⟨_, _, g1, rfl, _⟩ : ∃ lo hi, MkF intE (List.replicate n 0) n vnw1 lo hi w0 := hd 1 _ _ (by kernel_rfl) rfl rfl
    obtain ⟨_, _, g2, rfl, _⟩ : ∃ lo hi, MkF boolE (List.replicate n false) n vnw3 lo hi w0 := hd 3 _ _ (by kernel_rfl) rfl rfl
    exact zsr
   refine zql ?_
   refine zqp ?_
   refine chn_end (fun wz lo hi hbz hd hR => ?_)
   obtain ⟨gI, rfl, oI, lI, mI⟩ : MkF intE (List.replicate n 0) n vnw1 (lo 1) (hi 1) wz := hd 1 _ _ rfl rfl
   obtain ⟨gB, rfl, oB, lB, mB⟩ : MkF boolE (List.replicate n false) n vnw3 (lo 3) (hi 3) wz := hd 3 _ _ rfl rfl
   have r1 := (hR.2 1 _ rfl).1
   have r2 := (hR.2 3 _ rfl).1
   have hz0w := hb0.size
   have zz1 : w.heap.size + 1 ≤ W0.heap.size := by simpa using hz0w
   have hbwz : Below w.heap.size w wz := B0.trans ((hb0.trans (hbz.mono hz0w)).mono (by simp))
   have kz : Blk wz w.heap.size 25 #[.slice none 0 0, .slice none 0 0] := (Blk.new_ rfl rfl : Blk (w.alloc (.cells #[.slice none 0 0, .slice none 0 0] 25)) w.heap.size 25 _).below_ (hb0.trans (hbz.mono hz0w)) (by simp)
   have klz := kz.lt
   clear hd hR
   obtain ⟨y0, y1⟩ := zc2 kz
   obtain ⟨yf0, yf1, -⟩ := zf kz
   refine late_one (by simp only [zy5, zy6, zy7]; rfl) (fun K Q' hK => ?_)
   go_simp
   refine hK.out _ ?_
   clear hK K Q'
   obtain ⟨V, hV⟩ : ∃ V, (wz.setCell ⟨w.heap.size, 0, none⟩ (.slice (some ⟨gI, 0, none⟩) n n)).setCell ⟨w.heap.size, 1, none⟩ (.slice (some ⟨gB, 0, none⟩) n n) = V := ⟨_, rfl⟩
   have kV : Blk V w.heap.size 25 #[.slice (some ⟨gI, 0, none⟩) n n, .slice (some ⟨gB, 0, none⟩) n n] := by rw [← hV]; exact (kz.set_ 0 _).set_ 1 _
   have BV : Below w.heap.size w V := by rw [← hV]; exact zbl
   have oI2 : OwnR intE V (w.heap.size + 1) (.slice (some ⟨gI, 0, none⟩) n n) (List.replicate n 0) := by rw [← hV]; exact ((oI.base_ (by omega)).far' (p := ⟨w.heap.size, 0, none⟩) (by show gI ≠ w.heap.size; omega) _).far' (p := ⟨w.heap.size, 1, none⟩) (by show gI ≠ w.heap.size; omega) _
   have oB2 : OwnR boolE V (w.heap.size + 1) (.slice (some ⟨gB, 0, none⟩) n n) (List.replicate n false) := by rw [← hV]; exact ((oB.base_ (by omega)).far' (p := ⟨w.heap.size, 0, none⟩) (by show gB ≠ w.heap.size; omega) _).far' (p := ⟨w.heap.size, 1, none⟩) (by show gB ≠ w.heap.size; omega) _
   rw [hV]
   clear hV y0 y1
   obtain ⟨v0, v1⟩ := zc2 kV
   go_wp2_with fail
   refine bodyPost_ret (by simp [results, Tryz.results76, go_sem, v0, v1] <;> rfl) rfl ?_
   exact ⟨some ⟨gI, 0, none⟩, n, some ⟨gB, 0, none⟩, n, by simp [stV], OwnE.of_own (oI2.base_ (by omega)) (by simp), OwnE.of_own (oB2.base_ (by omega)) (by simp), BV⟩
theorem rdNew_any (N R : Int) (w : World) (hn : N ≤ 40 ∨ 256 < N) : Calls Tryz.prog 77 #[.int .i64 N, .int .i64 R] w (DkPost (newD N R) w) := by
 have B0 : Below w.heap.size w (w.alloc (.cells #[.slice none 0 0, .slice none 0 0, .int .i64 0] 31)) := zbl
 obtain ⟨b1, h1b⟩ : ∃ b, decide (N < 1) = b := ⟨_, rfl⟩
 obtain ⟨b2, h2b⟩ : ∃ b, decide (N > 256) = b := ⟨_, rfl⟩
 obtain ⟨b3, h3b⟩ : ∃ b, decide (R < 1) = b := ⟨_, rfl⟩
 obtain ⟨b4, h4b⟩ : ∃ b, decide (R > 32) = b := ⟨_, rfl⟩
 by_cases hb : b1 = false ∧ b2 = false ∧ b3 = false ∧ b4 = false
 ·obtain ⟨rfl, rfl, rfl, rfl⟩ := hb
  simp only [decide_eq_false_iff_not, Int.not_lt] at h1b h2b h3b h4b
  obtain ⟨n, rfl⟩ : ∃ n : Nat, N = n := ⟨N.toNat, by omega⟩
  have hm : n ≤ 40 := by omega
  have HE : Hid (newD n R = (⟨List.replicate n .zero, [], R⟩, 0)) := by show _ = _; unfold newD; rw [if_neg (by omega)]; simp
  have h1b : decide ((n : Int) < 1) = false := by simpa using h1b
  have h2b : decide ((n : Int) > 256) = false := by simpa using h2b
  have h3b : decide (R < 1) = false := by simpa using h3b
  have h4b : decide (R > 32) = false := by simpa using h4b
  rw [HE.out]
  have hmC := fun (W : World) => run_mkR ctE .zero (by rfl) n (by omega) W
  replace hmC : ∀ W : World, (Instr.makeSlice 28 (.int .i64 n) (.int .i64 n)).run Tryz.prog W = .ok (.slice (some ⟨W.heap.size, 0, none⟩) n n) (W.alloc (.cells (ctE.flat (List.replicate n .zero)).toArray 38)) := hmC
  obtain ⟨Z, hZ⟩ : ∃ Z, (w.alloc (.cells #[.slice none 0 0, .slice none 0 0, .int .i64 0] 31)).alloc (.cells (ctE.flat (List.replicate n .zero)).toArray 38) = Z := ⟨_, rfl⟩
  have kT : Blk Z w.heap.size 31 #[.slice none 0 0, .slice none 0 0, .int .i64 0] := by rw [← hZ]; exact (Blk.new_ rfl rfl : Blk (w.alloc _) w.heap.size _ _).alloc_ _
  have BZ : Below w.heap.size w Z := by rw [← hZ]; exact zbl
  have oZ : OwnR ctE Z (w.heap.size + 1) (.slice (some ⟨w.heap.size + 1, 0, none⟩) n n) (List.replicate n .zero) := by rw [← hZ]; have h := OwnR.made ctE .zero n (by omega) (w.alloc (.cells #[.slice none 0 0, .slice none 0 0, .int .i64 0] 31)) (Nat.le_refl _); rw [show (w.alloc (.cells #[.slice none 0 0, .slice none 0 0, .int .i64 0] 31)).heap.size = w.heap.size + 1 by simp] at h; exact h
  have zT := kT.lt
  obtain ⟨t0, t1, t2⟩ := zc3 kT
  obtain ⟨tf0, tf1, tf2, -⟩ := zf kT
  go_enter Tryz.func77, Tryz.ntmps77
  go_wp2_with fail
  (try rw [hZ])
  go_wp2_with fail
  obtain ⟨W, hW⟩ : ∃ W, World.setCell (World.setCell (World.setCell Z ⟨w.heap.size, 0, none⟩ (.slice (some ⟨w.heap.size + 1, 0, none⟩) n n)) ⟨w.heap.size, 1, none⟩ (.slice none 0 0)) ⟨w.heap.size, 2, none⟩ (.int .i64 R) = W := ⟨_, rfl⟩
  have kW : Blk W (w.heap.size) 31 #[.slice (some ⟨w.heap.size + 1, 0, none⟩) n n, .slice none 0 0, .int .i64 R] := by rw [← hW]; exact (Blk.set_ (Blk.set_ (Blk.set_ kT 0 _) 1 _) 2 _)
  have bW : Below w.heap.size w W := by rw [← hW]; exact ((BZ.setCell (p := ⟨w.heap.size, 0, none⟩) (Nat.le_refl _) _).setCell (p := ⟨w.heap.size, 1, none⟩) (Nat.le_refl _) _).setCell (p := ⟨w.heap.size, 2, none⟩) (Nat.le_refl _) _
  have oW : OwnR ctE W (w.heap.size + 1) (.slice (some ⟨w.heap.size + 1, 0, none⟩) n n) (List.replicate n .zero) := by rw [← hW]; exact ((oZ.far _ (by exact Nat.lt_succ_self _)).far _ (by exact Nat.lt_succ_self _)).far _ (by exact Nat.lt_succ_self _)
  rw [hW]
  clear hW t0 t1 t2 hZ hmC
  refine bodyPost_ret (by simp [results, Tryz.results77, go_sem, zc3 kW] <;> rfl) rfl ?_
  exact ⟨some ⟨w.heap.size + 1, 0, none⟩, n, none, 0, by simp [dkV], OwnE.of_own (oW.base_ (by omega)) (by simp), OwnE.nil, bW⟩
 ·have HE : Hid (newD N R = (.zero, 2)) := by
   show _ = _
   unfold newD
   rw [if_pos]
   by_cases e1 : N < 1
   ·exact .inl e1
   by_cases e2 : 256 < N
   ·exact .inr (.inl e2)
   by_cases e3 : R < 1
   ·exact .inr (.inr (.inl e3))
   by_cases e4 : 32 < R
   ·exact .inr (.inr (.inr e4))
   ·exact absurd ⟨by rw [← h1b]; simpa using e1, by rw [← h2b]; simpa using e2, by rw [← h3b]; simpa using e3, by rw [← h4b]; simpa using e4⟩ hb
  rw [HE.out]
  clear HE hn
  cases b1 <;> cases b2 <;> cases b3 <;> cases b4 <;> first
   | exact absurd ⟨rfl, rfl, rfl, rfl⟩ hb
   | (clear hb
      go_enter Tryz.func77, Tryz.ntmps77
      go_wp2_with fail
      refine bodyPost_ret (by simp [results, Tryz.results77, go_sem] <;> rfl) rfl ?_
      exact DkPost.zero B0)
 
theorem newW_bad {N room most : Int} (h : N < 1 ∨ 256 < N ∨ room < 1 ∨ 32 < room ∨ most < 1 ∨ 16 < most) : newW N room most = (.zero, 2) := by
 unfold newW
 by_cases h1 : most < 1 ∨ 16 < most
 ·rw [if_pos h1]
 rw [if_neg h1]
 by_cases h2 : N < 1 ∨ 256 < N
 ·have e : newT N = (.zero, 2) := by unfold newT; rw [if_pos h2]
  rw [e]; rfl
 have e : (newT N).2 = 0 := by unfold newT; rw [if_neg h2]
 rw [e, if_neg (by simp)]
 have e : newD N room = (.zero, 2) := by unfold newD; rw [if_pos (by omega)]
 rw [e]; rfl
theorem rNew_any (N room most : Int) (w : World) (hn : N ≤ 40 ∨ 256 < N) : Calls Tryz.prog 23 #[.int .i64 N, .int .i64 room, .int .i64 most] w (SwPost (newW N room most).1 [.int .i64 (newW N room most).2] w) := by
 by_cases h0 : N < 1
 ·have hb0 : decide (N < 1) = true := by simpa using h0
  have HE : Hid (newW N room most = (.zero, 2)) := newW_bad (by omega)
  rw [HE.out]
  clear HE
  clear h0
  go_enter Tryz.func23, Tryz.ntmps23
  go_wp2_with fail
  refine bodyPost_ret (by simp [results, Tryz.results23, go_sem] <;> rfl) rfl ?_
  exact ⟨.zero, rfl, SwO.zero, zbl⟩
 have hb0 : decide (N < 1) = false := by simpa using h0
 by_cases h1 : N > 256
 ·have hb1 : decide (N > 256) = true := by simpa using h1
  have HE : Hid (newW N room most = (.zero, 2)) := newW_bad (by omega)
  rw [HE.out]
  clear HE
  clear h1
  go_enter Tryz.func23, Tryz.ntmps23
  go_wp2_with fail
  refine bodyPost_ret (by simp [results, Tryz.results23, go_sem] <;> rfl) rfl ?_
  exact ⟨.zero, rfl, SwO.zero, zbl⟩
 have hb1 : decide (N > 256) = false := by simpa using h1
 by_cases h2 : room < 1
 ·have hb2 : decide (room < 1) = true := by simpa using h2
  have HE : Hid (newW N room most = (.zero, 2)) := newW_bad (by omega)
  rw [HE.out]
  clear HE
  clear h2
  go_enter Tryz.func23, Tryz.ntmps23
  go_wp2_with fail
  refine bodyPost_ret (by simp [results, Tryz.results23, go_sem] <;> rfl) rfl ?_
  exact ⟨.zero, rfl, SwO.zero, zbl⟩
 have hb2 : decide (room < 1) = false := by simpa using h2
 by_cases h3 : room > 32
 ·have hb3 : decide (room > 32) = true := by simpa using h3
  have HE : Hid (newW N room most = (.zero, 2)) := newW_bad (by omega)
  rw [HE.out]
  clear HE
  clear h3
  go_enter Tryz.func23, Tryz.ntmps23
  go_wp2_with fail
  refine bodyPost_ret (by simp [results, Tryz.results23, go_sem] <;> rfl) rfl ?_
  exact ⟨.zero, rfl, SwO.zero, zbl⟩
 have hb3 : decide (room > 32) = false := by simpa using h3
 by_cases h4 : most < 1
 ·have hb4 : decide (most < 1) = true := by simpa using h4
  have HE : Hid (newW N room most = (.zero, 2)) := newW_bad (by omega)
  rw [HE.out]
  clear HE
  clear h4
  go_enter Tryz.func23, Tryz.ntmps23
  go_wp2_with fail
  refine bodyPost_ret (by simp [results, Tryz.results23, go_sem] <;> rfl) rfl ?_
  exact ⟨.zero, rfl, SwO.zero, zbl⟩
 have hb4 : decide (most < 1) = false := by simpa using h4
 by_cases h5 : most > 16
 ·have hb5 : decide (most > 16) = true := by simpa using h5
  have HE : Hid (newW N room most = (.zero, 2)) := newW_bad (by omega)
  rw [HE.out]
  clear HE
  clear h5
  go_enter Tryz.func23, Tryz.ntmps23
  go_wp2_with fail
  refine bodyPost_ret (by simp [results, Tryz.results23, go_sem] <;> rfl) rfl ?_
  exact ⟨.zero, rfl, SwO.zero, zbl⟩
 have hb5 : decide (most > 16) = false := by simpa using h5
 obtain ⟨T, hTe⟩ : ∃ T, newT N = (T, 0) := ⟨_, Prod.ext rfl (by unfold newT; rw [if_neg (by omega)])⟩
 obtain ⟨D, hDe⟩ : ∃ D, newD N room = (D, 0) := ⟨_, Prod.ext rfl (by unfold newD; rw [if_neg (by omega)])⟩
 obtain ⟨P, hPe⟩ : ∃ P, newP room = (P, 0) := ⟨_, Prod.ext rfl (by unfold newP; rw [if_neg (by omega)])⟩
 have HE : Hid (newW N room most = (⟨most, T, [], [], [], D, P⟩, 0)) := by show _ = _; unfold newW; rw [if_neg (by omega), hTe, if_neg (by simp), hDe, if_neg (by simp), hPe, if_neg (by simp)]
 have hT := fun V => rsNew_any N V hn
 have hD := fun V => rdNew_any N room V hn
 have hP := fun V => rpNew_any room V
 rw [hTe] at hT
 rw [hDe] at hD
 rw [hPe] at hP
 replace hT := Lib.hid hT
 replace hD := Lib.hid hD
 replace hP := Lib.hid hP
 clear hTe hDe hPe
 go_enter Tryz.func23, Tryz.ntmps23
 go_upto_region 4 with fail
 obtain ⟨X, hX⟩ : ∃ X, (w.alloc (.cells zkz.toArray 35)).alloc (.cells #[.int .i64 most, .slice none 0 0, .slice none 0 0, .slice none 0 0, .slice none 0 0, .slice none 0 0, .slice none 0 0, .slice none 0 0, .int .i64 0, .int .i64 0, .slice none 0 0] 35) = X := ⟨_, rfl⟩
 have kR := za1 hX
 have kB := za2 hX
 have BX := zabb hX
 have hXs : w.heap.size + 1 < X.heap.size := kB.lt
 rw [hX]
 clear hX
 have zz0 := kB.lt
 go_wp2_with fail
 refine (hT.out X).mono ?_
 rintro e1 w1 ⟨A0, c0, A1, c1, rfl, o0, o1, hb1⟩
 unfold stV
 dsimp only
 have B1 := BX.trans (hb1.mono BX.size)
 replace kR := kR.below_ hb1 kR.lt
 replace kB := kB.below_ hb1 kB.lt
 have zB := kB.lt
 obtain ⟨-, t1, t2, -⟩ := zc11 kB
 obtain ⟨-, tf1, tf2, -⟩ := zf kB
 go_upto_region 5 with fail
 obtain ⟨U1, hU⟩ : ∃ U, setN w1 (w.heap.size + 1) 1 [.slice A0 T.refs.length c0, .slice A1 T.busy.length c1] = U := ⟨_, rfl⟩
 have hUn : World.setCell (World.setCell w1 ⟨w.heap.size + 1, 1, none⟩ (.slice A0 T.refs.length c0)) ⟨w.heap.size + 1, 2, none⟩ (.slice A1 T.busy.length c1) = U1 := hU
 replace kB : Blk U1 (w.heap.size + 1) 35 #[.int .i64 most, .slice A0 T.refs.length c0, .slice A1 T.busy.length c1, .slice none 0 0, .slice none 0 0, .slice none 0 0, .slice none 0 0, .slice none 0 0, .int .i64 0, .int .i64 0, .slice none 0 0] := by rw [← hU]; exact (Blk.set_ (Blk.set_ kB 1 _) 2 _)
 replace kR : Blk U1 w.heap.size 35 zkz.toArray := by rw [← hU]; exact kR.kept (grown_setN _ _ _ _) (by simp)
 have C1 := zbw hU B1 (by omega)
 replace o0 := o0.farN (b := w.heap.size + 1) (o := 1) (by omega) [.slice A0 T.refs.length c0, .slice A1 T.busy.length c1]
 rw [hU] at o0
 replace o1 := o1.farN (b := w.heap.size + 1) (o := 1) (by omega) [.slice A0 T.refs.length c0, .slice A1 T.busy.length c1]
 rw [hU] at o1
 rw [hUn]
 have zz1 := kB.lt
 clear hUn hU zB t1 tf1 t2 tf2
 go_wp2_with fail
 refine (hD.out U1).mono ?_
 rintro e2 w2 ⟨A5, c5, A6, c6, rfl, o5, o6, hb2⟩
 unfold dkV
 dsimp only
 have B2 := C1.trans (hb2.mono C1.size)
 replace kR := kR.below_ hb2 kR.lt
 replace kB := kB.below_ hb2 kB.lt
 replace o0 := o0.ext hb2
 replace o1 := o1.ext hb2
 have zB := kB.lt
 obtain ⟨-, -, -, -, -, -, t6, t7, t8, -⟩ := zc11 kB
 obtain ⟨-, -, -, -, -, -, tf6, tf7, tf8, -⟩ := zf kB
 go_upto_region 6 with fail
 obtain ⟨U2, hU⟩ : ∃ U, setN w2 (w.heap.size + 1) 6 [.slice A5 D.cells.length c5, .slice A6 D.jobs.length c6, .int .i64 D.room] = U := ⟨_, rfl⟩
 have hUn : World.setCell (World.setCell (World.setCell w2 ⟨w.heap.size + 1, 6, none⟩ (.slice A5 D.cells.length c5)) ⟨w.heap.size + 1, 7, none⟩ (.slice A6 D.jobs.length c6)) ⟨w.heap.size + 1, 8, none⟩ (.int .i64 D.room) = U2 := hU
 replace kB : Blk U2 (w.heap.size + 1) 35 #[.int .i64 most, .slice A0 T.refs.length c0, .slice A1 T.busy.length c1, .slice none 0 0, .slice none 0 0, .slice none 0 0, .slice A5 D.cells.length c5, .slice A6 D.jobs.length c6, .int .i64 D.room, .int .i64 0, .slice none 0 0] := by rw [← hU]; exact (Blk.set_ (Blk.set_ (Blk.set_ kB 6 _) 7 _) 8 _)
 replace kR : Blk U2 w.heap.size 35 zkz.toArray := by rw [← hU]; exact kR.kept (grown_setN _ _ _ _) (by simp)
 have C2 := zbw hU B2 (by omega)
 replace o0 := o0.farN (b := w.heap.size + 1) (o := 6) (by omega) [.slice A5 D.cells.length c5, .slice A6 D.jobs.length c6, .int .i64 D.room]
 rw [hU] at o0
 replace o1 := o1.farN (b := w.heap.size + 1) (o := 6) (by omega) [.slice A5 D.cells.length c5, .slice A6 D.jobs.length c6, .int .i64 D.room]
 rw [hU] at o1
 replace o5 := o5.farN (b := w.heap.size + 1) (o := 6) (by omega) [.slice A5 D.cells.length c5, .slice A6 D.jobs.length c6, .int .i64 D.room]
 rw [hU] at o5
 replace o6 := o6.farN (b := w.heap.size + 1) (o := 6) (by omega) [.slice A5 D.cells.length c5, .slice A6 D.jobs.length c6, .int .i64 D.room]
 rw [hU] at o6
 rw [hUn]
 have zz2 := kB.lt
 clear hUn hU zB t6 tf6 t7 tf7 t8 tf8
 go_wp2_with fail
 refine (hP.out U2).mono ?_
 rintro e3 w3 ⟨A7, c7, rfl, o7, hb3⟩
 unfold poV
 dsimp only
 have B3 := C2.trans (hb3.mono C2.size)
 replace kR := kR.below_ hb3 kR.lt
 replace kB := kB.below_ hb3 kB.lt
 replace o0 := o0.ext hb3
 replace o1 := o1.ext hb3
 replace o5 := o5.ext hb3
 replace o6 := o6.ext hb3
 have zB := kB.lt
 obtain ⟨-, -, -, -, -, -, -, -, -, t9, t10⟩ := zc11 kB
 obtain ⟨-, -, -, -, -, -, -, -, -, tf9, tf10, -⟩ := zf kB
 go_upto_region 7 with fail
 obtain ⟨U3, hU⟩ : ∃ U, setN w3 (w.heap.size + 1) 9 [.int .i64 P.size, .slice A7 P.free.length c7] = U := ⟨_, rfl⟩
 have hUn : World.setCell (World.setCell w3 ⟨w.heap.size + 1, 9, none⟩ (.int .i64 P.size)) ⟨w.heap.size + 1, 10, none⟩ (.slice A7 P.free.length c7) = U3 := hU
 replace kB : Blk U3 (w.heap.size + 1) 35 #[.int .i64 most, .slice A0 T.refs.length c0, .slice A1 T.busy.length c1, .slice none 0 0, .slice none 0 0, .slice none 0 0, .slice A5 D.cells.length c5, .slice A6 D.jobs.length c6, .int .i64 D.room, .int .i64 P.size, .slice A7 P.free.length c7] := by rw [← hU]; exact (Blk.set_ (Blk.set_ kB 9 _) 10 _)
 replace kR : Blk U3 w.heap.size 35 zkz.toArray := by rw [← hU]; exact kR.kept (grown_setN _ _ _ _) (by simp)
 have C3 := zbw hU B3 (by omega)
 replace o0 := o0.farN (b := w.heap.size + 1) (o := 9) (by omega) [.int .i64 P.size, .slice A7 P.free.length c7]
 rw [hU] at o0
 replace o1 := o1.farN (b := w.heap.size + 1) (o := 9) (by omega) [.int .i64 P.size, .slice A7 P.free.length c7]
 rw [hU] at o1
 replace o5 := o5.farN (b := w.heap.size + 1) (o := 9) (by omega) [.int .i64 P.size, .slice A7 P.free.length c7]
 rw [hU] at o5
 replace o6 := o6.farN (b := w.heap.size + 1) (o := 9) (by omega) [.int .i64 P.size, .slice A7 P.free.length c7]
 rw [hU] at o6
 replace o7 := o7.farN (b := w.heap.size + 1) (o := 9) (by omega) [.int .i64 P.size, .slice A7 P.free.length c7]
 rw [hU] at o7
 rw [hUn]
 have zz3 := kB.lt
 clear hUn hU zB t9 tf9 t10 tf10
 have zB := kB.lt
 have zR := kR.lt
 obtain ⟨t0, t1, t2, t3, t4, t5, t6, t7, t8, t9, t10⟩ := zc11 kR
 obtain ⟨tf0, tf1, tf2, tf3, tf4, tf5, tf6, tf7, tf8, tf9, tf10, -⟩ := zf kR
 obtain ⟨s0, s1, s2, s3, s4, s5, s6, s7, s8, s9, s10⟩ := zc11 kB
 go_wp2_with fail
 obtain ⟨W, hW⟩ : ∃ W, setN U3 (w.heap.size) 0 [.int .i64 most, .slice A0 T.refs.length c0, .slice A1 T.busy.length c1, .slice none 0 0, .slice none 0 0, .slice none 0 0, .slice A5 D.cells.length c5, .slice A6 D.jobs.length c6, .int .i64 D.room, .int .i64 P.size, .slice A7 P.free.length c7] = W := ⟨_, rfl⟩
 have hWn := zs11 hW
 have kW := zsw hW kR
 have bW : Below w.heap.size w W := by rw [← hW]; exact below_setN C3 (Nat.le_refl _) _
 have q0 : OwnE intE W w.heap.size A0 c0 T.refs := by rw [← hW]; exact (o0.farN (b := w.heap.size) (o := 0) (by omega) _).base_ (by omega)
 have q1 : OwnE boolE W w.heap.size A1 c1 T.busy := by rw [← hW]; exact (o1.farN (b := w.heap.size) (o := 0) (by omega) _).base_ (by omega)
 have q5 : OwnE ctE W w.heap.size A5 c5 D.cells := by rw [← hW]; exact (o5.farN (b := w.heap.size) (o := 0) (by omega) _).base_ (by omega)
 have q6 : OwnE jbE W w.heap.size A6 c6 D.jobs := by rw [← hW]; exact (o6.farN (b := w.heap.size) (o := 0) (by omega) _).base_ (by omega)
 have q7 : OwnE intE W w.heap.size A7 c7 P.free := by rw [← hW]; exact (o7.farN (b := w.heap.size) (o := 0) (by omega) _).base_ (by omega)
 rw [hWn]
 clear hWn hW t0 tf0 s0 t1 tf1 s1 t2 tf2 s2 t3 tf3 s3 t4 tf4 s4 t5 tf5 s5 t6 tf6 s6 t7 tf7 s7 t8 tf8 s8 t9 tf9 s9 t10 tf10 s10
 refine bodyPost_ret (by simp [results, Tryz.results23, go_sem, zc11 kW] <;> rfl) rfl ?_
 rw [HE.out]
 exact ⟨⟨A0, c0, A1, c1, none, 0, none, 0, none, 0, A5, c5, A6, c6, A7, c7⟩, rfl, ⟨q0, q1, OwnE.nil.mn, OwnE.nil, OwnE.nil, q5, q6, q7, fun _ h => absurd rfl h, fun _ h => absurd rfl h⟩, bW⟩
end Go.Proofs.YthijbipidbjpfaaGreatDoor
