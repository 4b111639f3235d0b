/- Package entry: Parse at the chapter's texts. Written by gen_oe5.py. -/
import Derived.Test.YtmbpjafiinfkkaaGreatDoorOE4
namespace Go.Proofs.YtmbpjafiinfkkaaGreatDoor
set_option linter.unusedSimpArgs false
set_option linter.unusedVariables false
open Go.RowKit Go.Maps

theorem AL.set {w : World} (h : AL w) {p : Addr} (hp : p.block ≠ 0) (v : Value) : AL (w.setCell p v) :=
  ⟨by simpa [World.setCell] using h.1, fun i x hx => by
    have e := Below.heap_setCell w p v 0 (Ne.symm hp)
    have := h.2 i x hx
    unfold World.cell? at this ⊢
    rw [e]
    exact this⟩

set_option maxRecDepth 100000 in
set_option maxHeartbeats 4000000 in
theorem parse_none (w : World) : Calls Tryz.prog 55 #[.string ⟨#[45]⟩] w fun e w' => e = .returned (.tuple #[entV 0 0 false false false, .int .i64 0]) ∧ Below w.heap.size w w' := by
  unfold entV
  go_enter Tryz.func55, Tryz.ntmps55
  go_wp2
  refine bodyPost_ret (v := .tuple #[.agg #[.int .i64 0, .int .i64 0, .bool false, .bool false, .bool false], .int .i64 0]) (by simp [results, Tryz.results55, go_sem]) rfl ?_
  exact ⟨rfl, (by repeat' (first | with_reducible exact Below.refl _ _ | with_reducible assumption | with_reducible apply Below.drew | with_reducible apply below_drewN | with_reducible apply Below.alloc | with_reducible apply Below.setCell | (with_reducible refine Below.trans ?_ (Below.mono (by assumption) ?_)) | (simp; done) | (simp; omega) | omega | with_reducible apply le_size_alloc | with_reducible apply le_size_drewN | with_reducible apply le_size_drew | with_reducible apply le_size_setCell | refine Nat.le_trans ?_ (Below.size (by assumption))))⟩

set_option maxRecDepth 100000 in
set_option maxHeartbeats 8000000 in
theorem parse_s2 (w : World) (hal : AL w) : Calls Tryz.prog 55 #[.string ⟨#[115, 50]⟩] w fun e w' => e = .returned (.tuple #[entV 2 2 false false false, .int .i64 0]) ∧ Below w.heap.size w w' := by
  unfold entV
  have hzc : Hid (chkE 2 2 false false false = 0) := by show _ = _; decide
  go_enter Tryz.func55, Tryz.ntmps55
  go_wp2_with fail
  refine (sCutPrefixY ⟨#[115, 50]⟩ ⟨#[115]⟩ ⟨#[50]⟩ 2 _ rfl (by decide) (by decide) rfl (by decide +kernel) (by decide +kernel)).mono ?_
  rintro e w' ⟨rfl, rfl⟩
  go_wp2_with fail
  have kE : Blk ((w.alloc (.cells #[.int .i64 0, .int .i64 0, .bool false, .bool false, .bool false] 63)).alloc (.cells #[.int .i64 2, .int .i64 0, .bool false, .bool false, .bool false] 63)) (w.heap.size + 1) 63 #[.int .i64 2, .int .i64 0, .bool false, .bool false, .bool false] := (Blk.new_ (by simp) rfl)
  have kR : Blk ((w.alloc (.cells #[.int .i64 0, .int .i64 0, .bool false, .bool false, .bool false] 63)).alloc (.cells #[.int .i64 2, .int .i64 0, .bool false, .bool false, .bool false] 63)) w.heap.size 63 #[.int .i64 0, .int .i64 0, .bool false, .bool false, .bool false] := ((Blk.new_ rfl rfl).alloc_ _)
  have hW : Below w.heap.size w ((w.alloc (.cells #[.int .i64 0, .int .i64 0, .bool false, .bool false, .bool false] 63)).alloc (.cells #[.int .i64 2, .int .i64 0, .bool false, .bool false, .bool false] 63)) := (by repeat' (first | with_reducible exact Below.refl _ _ | with_reducible assumption | with_reducible apply Below.drew | with_reducible apply below_drewN | with_reducible apply Below.alloc | with_reducible apply Below.setCell | (with_reducible refine Below.trans ?_ (Below.mono (by assumption) ?_)) | (simp; done) | (simp; omega) | omega | with_reducible apply le_size_alloc | with_reducible apply le_size_drewN | with_reducible apply le_size_drew | with_reducible apply le_size_setCell | refine Nat.le_trans ?_ (Below.size (by assumption))))
  have hWz : w.heap.size + 1 < ((w.alloc (.cells #[.int .i64 0, .int .i64 0, .bool false, .bool false, .bool false] 63)).alloc (.cells #[.int .i64 2, .int .i64 0, .bool false, .bool false, .bool false] 63)).heap.size := kE.lt
  have hWa : AL ((w.alloc (.cells #[.int .i64 0, .int .i64 0, .bool false, .bool false, .bool false] 63)).alloc (.cells #[.int .i64 2, .int .i64 0, .bool false, .bool false, .bool false] 63)) := hal.ext hW
  generalize ((w.alloc (.cells #[.int .i64 0, .int .i64 0, .bool false, .bool false, .bool false] 63)).alloc (.cells #[.int .i64 2, .int .i64 0, .bool false, .bool false, .bool false] 63)) = V at *
  refine (number2 _).mono ?_
  rintro e w1 ⟨rfl, hb1⟩
  have kE1 := kE.below_ hb1 hWz
  have kR1 := kR.below_ hb1 (by omega)
  have w1a : AL w1 := hWa.ext hb1
  have hz1 : w.heap.size + 1 < w1.heap.size := kE1.lt
  have r0 := kE1.cell_ 0; have rf0 := kE1.frozen_ 0
  have r1 := kE1.cell_ 1; have rf1 := kE1.frozen_ 1
  have r2 := kE1.cell_ 2; have rf2 := kE1.frozen_ 2
  have r3 := kE1.cell_ 3; have rf3 := kE1.frozen_ 3
  have r4 := kE1.cell_ 4; have rf4 := kE1.frozen_ 4
  simp at r0 r1 r2 r3 r4
  go_wp2_with fail
  have kE2 : Blk (w1.setCell ⟨w.heap.size + 1, 1, none⟩ (.int .i64 2)) (w.heap.size + 1) 63 #[.int .i64 2, .int .i64 2, .bool false, .bool false, .bool false] := kE1.set_ 1 (.int .i64 2)
  have kR2 := kR1.far_ (p := ⟨w.heap.size + 1, 1, none⟩) (by simp) (.int .i64 2)
  refine (eCheck_any 2 2 false false false _ (w1a.set (by simp) _)).mono ?_
  rw [hzc.out]
  rintro e w2 ⟨rfl, hb2⟩
  have kE3 := kE2.below_ hb2 (by simp; omega)
  have kR3 := kR2.below_ hb2 (by simp; omega)
  have hz3 : w.heap.size + 1 < w2.heap.size := kE3.lt
  clear r0 rf0 r1 rf1 r2 rf2 r3 rf3 r4 rf4
  have v0 := kE3.cell_ 0
  have v1 := kE3.cell_ 1
  have v2 := kE3.cell_ 2
  have v3 := kE3.cell_ 3
  have v4 := kE3.cell_ 4
  simp at v0 v1 v2 v3 v4
  have r0 := kR3.cell_ 0; have rf0 := kR3.frozen_ 0
  have r1 := kR3.cell_ 1; have rf1 := kR3.frozen_ 1
  have r2 := kR3.cell_ 2; have rf2 := kR3.frozen_ 2
  have r3 := kR3.cell_ 3; have rf3 := kR3.frozen_ 3
  have r4 := kR3.cell_ 4; have rf4 := kR3.frozen_ 4
  simp at r0 r1 r2 r3 r4
  have k' : Blk (((((w2.setCell ⟨w.heap.size, 0, none⟩ (.int .i64 2)).setCell ⟨w.heap.size, 1, none⟩ (.int .i64 2)).setCell ⟨w.heap.size, 2, none⟩ (.bool false)).setCell ⟨w.heap.size, 3, none⟩ (.bool false)).setCell ⟨w.heap.size, 4, none⟩ (.bool false)) w.heap.size 63 _ := (((((kR3.set_ 0 (.int .i64 2)).set_ 1 (.int .i64 2)).set_ 2 (.bool false)).set_ 3 (.bool false)).set_ 4 (.bool false))
  have t0 := k'.cell_ 0
  have t1 := k'.cell_ 1
  have t2 := k'.cell_ 2
  have t3 := k'.cell_ 3
  have t4 := k'.cell_ 4
  simp at t0 t1 t2 t3 t4
  clear k'
  have hBw : Below w.heap.size w w2 := (by repeat' (first | with_reducible exact Below.refl _ _ | with_reducible assumption | with_reducible apply Below.drew | with_reducible apply below_drewN | with_reducible apply Below.alloc | with_reducible apply Below.setCell | (with_reducible refine Below.trans ?_ (Below.mono (by assumption) ?_)) | (simp; done) | (simp; omega) | omega | with_reducible apply le_size_alloc | with_reducible apply le_size_drewN | with_reducible apply le_size_drew | with_reducible apply le_size_setCell | refine Nat.le_trans ?_ (Below.size (by assumption))))
  go_wp2
  refine bodyPost_ret (v := .tuple #[.agg #[.int .i64 2, .int .i64 2, .bool false, .bool false, .bool false], .int .i64 0]) (by simp [results, Tryz.results55, go_sem, t0, t1, t2, t3, t4]) rfl ?_
  exact ⟨rfl, (by repeat' (first | with_reducible exact Below.refl _ _ | with_reducible assumption | with_reducible apply Below.drew | with_reducible apply below_drewN | with_reducible apply Below.alloc | with_reducible apply Below.setCell | (with_reducible refine Below.trans ?_ (Below.mono (by assumption) ?_)) | (simp; done) | (simp; omega) | omega | with_reducible apply le_size_alloc | with_reducible apply le_size_drewN | with_reducible apply le_size_drew | with_reducible apply le_size_setCell | refine Nat.le_trans ?_ (Below.size (by assumption))))⟩

set_option maxRecDepth 100000 in
set_option maxHeartbeats 8000000 in
theorem parse_s3 (w : World) (hal : AL w) : Calls Tryz.prog 55 #[.string ⟨#[115, 51]⟩] w fun e w' => e = .returned (.tuple #[entV 2 3 false false false, .int .i64 0]) ∧ Below w.heap.size w w' := by
  unfold entV
  have hzc : Hid (chkE 2 3 false false false = 0) := by show _ = _; decide
  go_enter Tryz.func55, Tryz.ntmps55
  go_wp2_with fail
  refine (sCutPrefixY ⟨#[115, 51]⟩ ⟨#[115]⟩ ⟨#[51]⟩ 2 _ rfl (by decide) (by decide) rfl (by decide +kernel) (by decide +kernel)).mono ?_
  rintro e w' ⟨rfl, rfl⟩
  go_wp2_with fail
  have kE : Blk ((w.alloc (.cells #[.int .i64 0, .int .i64 0, .bool false, .bool false, .bool false] 63)).alloc (.cells #[.int .i64 2, .int .i64 0, .bool false, .bool false, .bool false] 63)) (w.heap.size + 1) 63 #[.int .i64 2, .int .i64 0, .bool false, .bool false, .bool false] := (Blk.new_ (by simp) rfl)
  have kR : Blk ((w.alloc (.cells #[.int .i64 0, .int .i64 0, .bool false, .bool false, .bool false] 63)).alloc (.cells #[.int .i64 2, .int .i64 0, .bool false, .bool false, .bool false] 63)) w.heap.size 63 #[.int .i64 0, .int .i64 0, .bool false, .bool false, .bool false] := ((Blk.new_ rfl rfl).alloc_ _)
  have hW : Below w.heap.size w ((w.alloc (.cells #[.int .i64 0, .int .i64 0, .bool false, .bool false, .bool false] 63)).alloc (.cells #[.int .i64 2, .int .i64 0, .bool false, .bool false, .bool false] 63)) := (by repeat' (first | with_reducible exact Below.refl _ _ | with_reducible assumption | with_reducible apply Below.drew | with_reducible apply below_drewN | with_reducible apply Below.alloc | with_reducible apply Below.setCell | (with_reducible refine Below.trans ?_ (Below.mono (by assumption) ?_)) | (simp; done) | (simp; omega) | omega | with_reducible apply le_size_alloc | with_reducible apply le_size_drewN | with_reducible apply le_size_drew | with_reducible apply le_size_setCell | refine Nat.le_trans ?_ (Below.size (by assumption))))
  have hWz : w.heap.size + 1 < ((w.alloc (.cells #[.int .i64 0, .int .i64 0, .bool false, .bool false, .bool false] 63)).alloc (.cells #[.int .i64 2, .int .i64 0, .bool false, .bool false, .bool false] 63)).heap.size := kE.lt
  have hWa : AL ((w.alloc (.cells #[.int .i64 0, .int .i64 0, .bool false, .bool false, .bool false] 63)).alloc (.cells #[.int .i64 2, .int .i64 0, .bool false, .bool false, .bool false] 63)) := hal.ext hW
  generalize ((w.alloc (.cells #[.int .i64 0, .int .i64 0, .bool false, .bool false, .bool false] 63)).alloc (.cells #[.int .i64 2, .int .i64 0, .bool false, .bool false, .bool false] 63)) = V at *
  refine (number3 _).mono ?_
  rintro e w1 ⟨rfl, hb1⟩
  have kE1 := kE.below_ hb1 hWz
  have kR1 := kR.below_ hb1 (by omega)
  have w1a : AL w1 := hWa.ext hb1
  have hz1 : w.heap.size + 1 < w1.heap.size := kE1.lt
  have r0 := kE1.cell_ 0; have rf0 := kE1.frozen_ 0
  have r1 := kE1.cell_ 1; have rf1 := kE1.frozen_ 1
  have r2 := kE1.cell_ 2; have rf2 := kE1.frozen_ 2
  have r3 := kE1.cell_ 3; have rf3 := kE1.frozen_ 3
  have r4 := kE1.cell_ 4; have rf4 := kE1.frozen_ 4
  simp at r0 r1 r2 r3 r4
  go_wp2_with fail
  have kE2 : Blk (w1.setCell ⟨w.heap.size + 1, 1, none⟩ (.int .i64 3)) (w.heap.size + 1) 63 #[.int .i64 2, .int .i64 3, .bool false, .bool false, .bool false] := kE1.set_ 1 (.int .i64 3)
  have kR2 := kR1.far_ (p := ⟨w.heap.size + 1, 1, none⟩) (by simp) (.int .i64 3)
  refine (eCheck_any 2 3 false false false _ (w1a.set (by simp) _)).mono ?_
  rw [hzc.out]
  rintro e w2 ⟨rfl, hb2⟩
  have kE3 := kE2.below_ hb2 (by simp; omega)
  have kR3 := kR2.below_ hb2 (by simp; omega)
  have hz3 : w.heap.size + 1 < w2.heap.size := kE3.lt
  clear r0 rf0 r1 rf1 r2 rf2 r3 rf3 r4 rf4
  have v0 := kE3.cell_ 0
  have v1 := kE3.cell_ 1
  have v2 := kE3.cell_ 2
  have v3 := kE3.cell_ 3
  have v4 := kE3.cell_ 4
  simp at v0 v1 v2 v3 v4
  have r0 := kR3.cell_ 0; have rf0 := kR3.frozen_ 0
  have r1 := kR3.cell_ 1; have rf1 := kR3.frozen_ 1
  have r2 := kR3.cell_ 2; have rf2 := kR3.frozen_ 2
  have r3 := kR3.cell_ 3; have rf3 := kR3.frozen_ 3
  have r4 := kR3.cell_ 4; have rf4 := kR3.frozen_ 4
  simp at r0 r1 r2 r3 r4
  have k' : Blk (((((w2.setCell ⟨w.heap.size, 0, none⟩ (.int .i64 2)).setCell ⟨w.heap.size, 1, none⟩ (.int .i64 3)).setCell ⟨w.heap.size, 2, none⟩ (.bool false)).setCell ⟨w.heap.size, 3, none⟩ (.bool false)).setCell ⟨w.heap.size, 4, none⟩ (.bool false)) w.heap.size 63 _ := (((((kR3.set_ 0 (.int .i64 2)).set_ 1 (.int .i64 3)).set_ 2 (.bool false)).set_ 3 (.bool false)).set_ 4 (.bool false))
  have t0 := k'.cell_ 0
  have t1 := k'.cell_ 1
  have t2 := k'.cell_ 2
  have t3 := k'.cell_ 3
  have t4 := k'.cell_ 4
  simp at t0 t1 t2 t3 t4
  clear k'
  have hBw : Below w.heap.size w w2 := (by repeat' (first | with_reducible exact Below.refl _ _ | with_reducible assumption | with_reducible apply Below.drew | with_reducible apply below_drewN | with_reducible apply Below.alloc | with_reducible apply Below.setCell | (with_reducible refine Below.trans ?_ (Below.mono (by assumption) ?_)) | (simp; done) | (simp; omega) | omega | with_reducible apply le_size_alloc | with_reducible apply le_size_drewN | with_reducible apply le_size_drew | with_reducible apply le_size_setCell | refine Nat.le_trans ?_ (Below.size (by assumption))))
  go_wp2
  refine bodyPost_ret (v := .tuple #[.agg #[.int .i64 2, .int .i64 3, .bool false, .bool false, .bool false], .int .i64 0]) (by simp [results, Tryz.results55, go_sem, t0, t1, t2, t3, t4]) rfl ?_
  exact ⟨rfl, (by repeat' (first | with_reducible exact Below.refl _ _ | with_reducible assumption | with_reducible apply Below.drew | with_reducible apply below_drewN | with_reducible apply Below.alloc | with_reducible apply Below.setCell | (with_reducible refine Below.trans ?_ (Below.mono (by assumption) ?_)) | (simp; done) | (simp; omega) | omega | with_reducible apply le_size_alloc | with_reducible apply le_size_drewN | with_reducible apply le_size_drew | with_reducible apply le_size_setCell | refine Nat.le_trans ?_ (Below.size (by assumption))))⟩

set_option maxRecDepth 100000 in
set_option maxHeartbeats 8000000 in
theorem parse_p1w (w : World) (hal : AL w) : Calls Tryz.prog 55 #[.string ⟨#[112, 49, 119]⟩] w fun e w' => e = .returned (.tuple #[entV 1 1 true false false, .int .i64 0]) ∧ Below w.heap.size w w' := by
  unfold entV
  have hzc : Hid (chkE 1 1 true false false = 0) := by show _ = _; decide
  go_enter Tryz.func55, Tryz.ntmps55
  go_wp2_with fail
  refine (sCutPrefixN ⟨#[112, 49, 119]⟩ ⟨#[115]⟩ 3 _ rfl (by decide) (by decide) rfl (by decide +kernel)).mono ?_
  rintro e w' ⟨rfl, rfl⟩
  go_wp2_with fail
  refine (sCutPrefixY ⟨#[112, 49, 119]⟩ ⟨#[112]⟩ ⟨#[49, 119]⟩ 3 _ rfl (by decide) (by decide) rfl (by decide +kernel) (by decide +kernel)).mono ?_
  rintro e w' ⟨rfl, rfl⟩
  go_wp2_with fail
  refine (sCutSuffixN ⟨#[49, 119]⟩ ⟨#[114]⟩ 1 _ rfl (by decide) rfl (by decide +kernel)).mono ?_
  rintro e w' ⟨rfl, rfl⟩
  go_wp2_with fail
  refine (sCutSuffixY ⟨#[49, 119]⟩ ⟨#[119]⟩ ⟨#[49]⟩ 1 _ rfl (by decide) rfl (by decide +kernel) (by decide +kernel)).mono ?_
  rintro e w' ⟨rfl, rfl⟩
  go_wp2_with fail
  have kE : Blk ((w.alloc (.cells #[.int .i64 0, .int .i64 0, .bool false, .bool false, .bool false] 63)).alloc (.cells #[.int .i64 1, .int .i64 0, .bool true, .bool false, .bool false] 63)) (w.heap.size + 1) 63 #[.int .i64 1, .int .i64 0, .bool true, .bool false, .bool false] := (Blk.new_ (by simp) rfl)
  have kR : Blk ((w.alloc (.cells #[.int .i64 0, .int .i64 0, .bool false, .bool false, .bool false] 63)).alloc (.cells #[.int .i64 1, .int .i64 0, .bool true, .bool false, .bool false] 63)) w.heap.size 63 #[.int .i64 0, .int .i64 0, .bool false, .bool false, .bool false] := ((Blk.new_ rfl rfl).alloc_ _)
  have hW : Below w.heap.size w ((w.alloc (.cells #[.int .i64 0, .int .i64 0, .bool false, .bool false, .bool false] 63)).alloc (.cells #[.int .i64 1, .int .i64 0, .bool true, .bool false, .bool false] 63)) := (by repeat' (first | with_reducible exact Below.refl _ _ | with_reducible assumption | with_reducible apply Below.drew | with_reducible apply below_drewN | with_reducible apply Below.alloc | with_reducible apply Below.setCell | (with_reducible refine Below.trans ?_ (Below.mono (by assumption) ?_)) | (simp; done) | (simp; omega) | omega | with_reducible apply le_size_alloc | with_reducible apply le_size_drewN | with_reducible apply le_size_drew | with_reducible apply le_size_setCell | refine Nat.le_trans ?_ (Below.size (by assumption))))
  have hWz : w.heap.size + 1 < ((w.alloc (.cells #[.int .i64 0, .int .i64 0, .bool false, .bool false, .bool false] 63)).alloc (.cells #[.int .i64 1, .int .i64 0, .bool true, .bool false, .bool false] 63)).heap.size := kE.lt
  have hWa : AL ((w.alloc (.cells #[.int .i64 0, .int .i64 0, .bool false, .bool false, .bool false] 63)).alloc (.cells #[.int .i64 1, .int .i64 0, .bool true, .bool false, .bool false] 63)) := hal.ext hW
  generalize ((w.alloc (.cells #[.int .i64 0, .int .i64 0, .bool false, .bool false, .bool false] 63)).alloc (.cells #[.int .i64 1, .int .i64 0, .bool true, .bool false, .bool false] 63)) = V at *
  refine (number1 _).mono ?_
  rintro e w1 ⟨rfl, hb1⟩
  have kE1 := kE.below_ hb1 hWz
  have kR1 := kR.below_ hb1 (by omega)
  have w1a : AL w1 := hWa.ext hb1
  have hz1 : w.heap.size + 1 < w1.heap.size := kE1.lt
  have r0 := kE1.cell_ 0; have rf0 := kE1.frozen_ 0
  have r1 := kE1.cell_ 1; have rf1 := kE1.frozen_ 1
  have r2 := kE1.cell_ 2; have rf2 := kE1.frozen_ 2
  have r3 := kE1.cell_ 3; have rf3 := kE1.frozen_ 3
  have r4 := kE1.cell_ 4; have rf4 := kE1.frozen_ 4
  simp at r0 r1 r2 r3 r4
  go_wp2_with fail
  have kE2 : Blk (w1.setCell ⟨w.heap.size + 1, 1, none⟩ (.int .i64 1)) (w.heap.size + 1) 63 #[.int .i64 1, .int .i64 1, .bool true, .bool false, .bool false] := kE1.set_ 1 (.int .i64 1)
  have kR2 := kR1.far_ (p := ⟨w.heap.size + 1, 1, none⟩) (by simp) (.int .i64 1)
  refine (eCheck_any 1 1 true false false _ (w1a.set (by simp) _)).mono ?_
  rw [hzc.out]
  rintro e w2 ⟨rfl, hb2⟩
  have kE3 := kE2.below_ hb2 (by simp; omega)
  have kR3 := kR2.below_ hb2 (by simp; omega)
  have hz3 : w.heap.size + 1 < w2.heap.size := kE3.lt
  clear r0 rf0 r1 rf1 r2 rf2 r3 rf3 r4 rf4
  have v0 := kE3.cell_ 0
  have v1 := kE3.cell_ 1
  have v2 := kE3.cell_ 2
  have v3 := kE3.cell_ 3
  have v4 := kE3.cell_ 4
  simp at v0 v1 v2 v3 v4
  have r0 := kR3.cell_ 0; have rf0 := kR3.frozen_ 0
  have r1 := kR3.cell_ 1; have rf1 := kR3.frozen_ 1
  have r2 := kR3.cell_ 2; have rf2 := kR3.frozen_ 2
  have r3 := kR3.cell_ 3; have rf3 := kR3.frozen_ 3
  have r4 := kR3.cell_ 4; have rf4 := kR3.frozen_ 4
  simp at r0 r1 r2 r3 r4
  have k' : Blk (((((w2.setCell ⟨w.heap.size, 0, none⟩ (.int .i64 1)).setCell ⟨w.heap.size, 1, none⟩ (.int .i64 1)).setCell ⟨w.heap.size, 2, none⟩ (.bool true)).setCell ⟨w.heap.size, 3, none⟩ (.bool false)).setCell ⟨w.heap.size, 4, none⟩ (.bool false)) w.heap.size 63 _ := (((((kR3.set_ 0 (.int .i64 1)).set_ 1 (.int .i64 1)).set_ 2 (.bool true)).set_ 3 (.bool false)).set_ 4 (.bool false))
  have t0 := k'.cell_ 0
  have t1 := k'.cell_ 1
  have t2 := k'.cell_ 2
  have t3 := k'.cell_ 3
  have t4 := k'.cell_ 4
  simp at t0 t1 t2 t3 t4
  clear k'
  have hBw : Below w.heap.size w w2 := (by repeat' (first | with_reducible exact Below.refl _ _ | with_reducible assumption | with_reducible apply Below.drew | with_reducible apply below_drewN | with_reducible apply Below.alloc | with_reducible apply Below.setCell | (with_reducible refine Below.trans ?_ (Below.mono (by assumption) ?_)) | (simp; done) | (simp; omega) | omega | with_reducible apply le_size_alloc | with_reducible apply le_size_drewN | with_reducible apply le_size_drew | with_reducible apply le_size_setCell | refine Nat.le_trans ?_ (Below.size (by assumption))))
  go_wp2
  refine bodyPost_ret (v := .tuple #[.agg #[.int .i64 1, .int .i64 1, .bool true, .bool false, .bool false], .int .i64 0]) (by simp [results, Tryz.results55, go_sem, t0, t1, t2, t3, t4]) rfl ?_
  exact ⟨rfl, (by repeat' (first | with_reducible exact Below.refl _ _ | with_reducible assumption | with_reducible apply Below.drew | with_reducible apply below_drewN | with_reducible apply Below.alloc | with_reducible apply Below.setCell | (with_reducible refine Below.trans ?_ (Below.mono (by assumption) ?_)) | (simp; done) | (simp; omega) | omega | with_reducible apply le_size_alloc | with_reducible apply le_size_drewN | with_reducible apply le_size_drew | with_reducible apply le_size_setCell | refine Nat.le_trans ?_ (Below.size (by assumption))))⟩

set_option maxRecDepth 100000 in
set_option maxHeartbeats 8000000 in
theorem parse_p2c (w : World) (hal : AL w) : Calls Tryz.prog 55 #[.string ⟨#[112, 50, 99]⟩] w fun e w' => e = .returned (.tuple #[entV 1 2 false true false, .int .i64 0]) ∧ Below w.heap.size w w' := by
  unfold entV
  have hzc : Hid (chkE 1 2 false true false = 0) := by show _ = _; decide
  go_enter Tryz.func55, Tryz.ntmps55
  go_wp2_with fail
  refine (sCutPrefixN ⟨#[112, 50, 99]⟩ ⟨#[115]⟩ 3 _ rfl (by decide) (by decide) rfl (by decide +kernel)).mono ?_
  rintro e w' ⟨rfl, rfl⟩
  go_wp2_with fail
  refine (sCutPrefixY ⟨#[112, 50, 99]⟩ ⟨#[112]⟩ ⟨#[50, 99]⟩ 3 _ rfl (by decide) (by decide) rfl (by decide +kernel) (by decide +kernel)).mono ?_
  rintro e w' ⟨rfl, rfl⟩
  go_wp2_with fail
  refine (sCutSuffixN ⟨#[50, 99]⟩ ⟨#[114]⟩ 1 _ rfl (by decide) rfl (by decide +kernel)).mono ?_
  rintro e w' ⟨rfl, rfl⟩
  go_wp2_with fail
  refine (sCutSuffixN ⟨#[50, 99]⟩ ⟨#[119]⟩ 1 _ rfl (by decide) rfl (by decide +kernel)).mono ?_
  rintro e w' ⟨rfl, rfl⟩
  go_wp2_with fail
  refine (sCutSuffixY ⟨#[50, 99]⟩ ⟨#[99]⟩ ⟨#[50]⟩ 1 _ rfl (by decide) rfl (by decide +kernel) (by decide +kernel)).mono ?_
  rintro e w' ⟨rfl, rfl⟩
  go_wp2_with fail
  have kE : Blk ((w.alloc (.cells #[.int .i64 0, .int .i64 0, .bool false, .bool false, .bool false] 63)).alloc (.cells #[.int .i64 1, .int .i64 0, .bool false, .bool true, .bool false] 63)) (w.heap.size + 1) 63 #[.int .i64 1, .int .i64 0, .bool false, .bool true, .bool false] := (Blk.new_ (by simp) rfl)
  have kR : Blk ((w.alloc (.cells #[.int .i64 0, .int .i64 0, .bool false, .bool false, .bool false] 63)).alloc (.cells #[.int .i64 1, .int .i64 0, .bool false, .bool true, .bool false] 63)) w.heap.size 63 #[.int .i64 0, .int .i64 0, .bool false, .bool false, .bool false] := ((Blk.new_ rfl rfl).alloc_ _)
  have hW : Below w.heap.size w ((w.alloc (.cells #[.int .i64 0, .int .i64 0, .bool false, .bool false, .bool false] 63)).alloc (.cells #[.int .i64 1, .int .i64 0, .bool false, .bool true, .bool false] 63)) := (by repeat' (first | with_reducible exact Below.refl _ _ | with_reducible assumption | with_reducible apply Below.drew | with_reducible apply below_drewN | with_reducible apply Below.alloc | with_reducible apply Below.setCell | (with_reducible refine Below.trans ?_ (Below.mono (by assumption) ?_)) | (simp; done) | (simp; omega) | omega | with_reducible apply le_size_alloc | with_reducible apply le_size_drewN | with_reducible apply le_size_drew | with_reducible apply le_size_setCell | refine Nat.le_trans ?_ (Below.size (by assumption))))
  have hWz : w.heap.size + 1 < ((w.alloc (.cells #[.int .i64 0, .int .i64 0, .bool false, .bool false, .bool false] 63)).alloc (.cells #[.int .i64 1, .int .i64 0, .bool false, .bool true, .bool false] 63)).heap.size := kE.lt
  have hWa : AL ((w.alloc (.cells #[.int .i64 0, .int .i64 0, .bool false, .bool false, .bool false] 63)).alloc (.cells #[.int .i64 1, .int .i64 0, .bool false, .bool true, .bool false] 63)) := hal.ext hW
  generalize ((w.alloc (.cells #[.int .i64 0, .int .i64 0, .bool false, .bool false, .bool false] 63)).alloc (.cells #[.int .i64 1, .int .i64 0, .bool false, .bool true, .bool false] 63)) = V at *
  refine (number2 _).mono ?_
  rintro e w1 ⟨rfl, hb1⟩
  have kE1 := kE.below_ hb1 hWz
  have kR1 := kR.below_ hb1 (by omega)
  have w1a : AL w1 := hWa.ext hb1
  have hz1 : w.heap.size + 1 < w1.heap.size := kE1.lt
  have r0 := kE1.cell_ 0; have rf0 := kE1.frozen_ 0
  have r1 := kE1.cell_ 1; have rf1 := kE1.frozen_ 1
  have r2 := kE1.cell_ 2; have rf2 := kE1.frozen_ 2
  have r3 := kE1.cell_ 3; have rf3 := kE1.frozen_ 3
  have r4 := kE1.cell_ 4; have rf4 := kE1.frozen_ 4
  simp at r0 r1 r2 r3 r4
  go_wp2_with fail
  have kE2 : Blk (w1.setCell ⟨w.heap.size + 1, 1, none⟩ (.int .i64 2)) (w.heap.size + 1) 63 #[.int .i64 1, .int .i64 2, .bool false, .bool true, .bool false] := kE1.set_ 1 (.int .i64 2)
  have kR2 := kR1.far_ (p := ⟨w.heap.size + 1, 1, none⟩) (by simp) (.int .i64 2)
  refine (eCheck_any 1 2 false true false _ (w1a.set (by simp) _)).mono ?_
  rw [hzc.out]
  rintro e w2 ⟨rfl, hb2⟩
  have kE3 := kE2.below_ hb2 (by simp; omega)
  have kR3 := kR2.below_ hb2 (by simp; omega)
  have hz3 : w.heap.size + 1 < w2.heap.size := kE3.lt
  clear r0 rf0 r1 rf1 r2 rf2 r3 rf3 r4 rf4
  have v0 := kE3.cell_ 0
  have v1 := kE3.cell_ 1
  have v2 := kE3.cell_ 2
  have v3 := kE3.cell_ 3
  have v4 := kE3.cell_ 4
  simp at v0 v1 v2 v3 v4
  have r0 := kR3.cell_ 0; have rf0 := kR3.frozen_ 0
  have r1 := kR3.cell_ 1; have rf1 := kR3.frozen_ 1
  have r2 := kR3.cell_ 2; have rf2 := kR3.frozen_ 2
  have r3 := kR3.cell_ 3; have rf3 := kR3.frozen_ 3
  have r4 := kR3.cell_ 4; have rf4 := kR3.frozen_ 4
  simp at r0 r1 r2 r3 r4
  have k' : Blk (((((w2.setCell ⟨w.heap.size, 0, none⟩ (.int .i64 1)).setCell ⟨w.heap.size, 1, none⟩ (.int .i64 2)).setCell ⟨w.heap.size, 2, none⟩ (.bool false)).setCell ⟨w.heap.size, 3, none⟩ (.bool true)).setCell ⟨w.heap.size, 4, none⟩ (.bool false)) w.heap.size 63 _ := (((((kR3.set_ 0 (.int .i64 1)).set_ 1 (.int .i64 2)).set_ 2 (.bool false)).set_ 3 (.bool true)).set_ 4 (.bool false))
  have t0 := k'.cell_ 0
  have t1 := k'.cell_ 1
  have t2 := k'.cell_ 2
  have t3 := k'.cell_ 3
  have t4 := k'.cell_ 4
  simp at t0 t1 t2 t3 t4
  clear k'
  have hBw : Below w.heap.size w w2 := (by repeat' (first | with_reducible exact Below.refl _ _ | with_reducible assumption | with_reducible apply Below.drew | with_reducible apply below_drewN | with_reducible apply Below.alloc | with_reducible apply Below.setCell | (with_reducible refine Below.trans ?_ (Below.mono (by assumption) ?_)) | (simp; done) | (simp; omega) | omega | with_reducible apply le_size_alloc | with_reducible apply le_size_drewN | with_reducible apply le_size_drew | with_reducible apply le_size_setCell | refine Nat.le_trans ?_ (Below.size (by assumption))))
  go_wp2
  refine bodyPost_ret (v := .tuple #[.agg #[.int .i64 1, .int .i64 2, .bool false, .bool true, .bool false], .int .i64 0]) (by simp [results, Tryz.results55, go_sem, t0, t1, t2, t3, t4]) rfl ?_
  exact ⟨rfl, (by repeat' (first | with_reducible exact Below.refl _ _ | with_reducible assumption | with_reducible apply Below.drew | with_reducible apply below_drewN | with_reducible apply Below.alloc | with_reducible apply Below.setCell | (with_reducible refine Below.trans ?_ (Below.mono (by assumption) ?_)) | (simp; done) | (simp; omega) | omega | with_reducible apply le_size_alloc | with_reducible apply le_size_drewN | with_reducible apply le_size_drew | with_reducible apply le_size_setCell | refine Nat.le_trans ?_ (Below.size (by assumption))))⟩

set_option maxRecDepth 100000 in
set_option maxHeartbeats 8000000 in
theorem parse_p1c (w : World) (hal : AL w) : Calls Tryz.prog 55 #[.string ⟨#[112, 49, 99]⟩] w fun e w' => e = .returned (.tuple #[entV 1 1 false true false, .int .i64 0]) ∧ Below w.heap.size w w' := by
  unfold entV
  have hzc : Hid (chkE 1 1 false true false = 0) := by show _ = _; decide
  go_enter Tryz.func55, Tryz.ntmps55
  go_wp2_with fail
  refine (sCutPrefixN ⟨#[112, 49, 99]⟩ ⟨#[115]⟩ 3 _ rfl (by decide) (by decide) rfl (by decide +kernel)).mono ?_
  rintro e w' ⟨rfl, rfl⟩
  go_wp2_with fail
  refine (sCutPrefixY ⟨#[112, 49, 99]⟩ ⟨#[112]⟩ ⟨#[49, 99]⟩ 3 _ rfl (by decide) (by decide) rfl (by decide +kernel) (by decide +kernel)).mono ?_
  rintro e w' ⟨rfl, rfl⟩
  go_wp2_with fail
  refine (sCutSuffixN ⟨#[49, 99]⟩ ⟨#[114]⟩ 1 _ rfl (by decide) rfl (by decide +kernel)).mono ?_
  rintro e w' ⟨rfl, rfl⟩
  go_wp2_with fail
  refine (sCutSuffixN ⟨#[49, 99]⟩ ⟨#[119]⟩ 1 _ rfl (by decide) rfl (by decide +kernel)).mono ?_
  rintro e w' ⟨rfl, rfl⟩
  go_wp2_with fail
  refine (sCutSuffixY ⟨#[49, 99]⟩ ⟨#[99]⟩ ⟨#[49]⟩ 1 _ rfl (by decide) rfl (by decide +kernel) (by decide +kernel)).mono ?_
  rintro e w' ⟨rfl, rfl⟩
  go_wp2_with fail
  have kE : Blk ((w.alloc (.cells #[.int .i64 0, .int .i64 0, .bool false, .bool false, .bool false] 63)).alloc (.cells #[.int .i64 1, .int .i64 0, .bool false, .bool true, .bool false] 63)) (w.heap.size + 1) 63 #[.int .i64 1, .int .i64 0, .bool false, .bool true, .bool false] := (Blk.new_ (by simp) rfl)
  have kR : Blk ((w.alloc (.cells #[.int .i64 0, .int .i64 0, .bool false, .bool false, .bool false] 63)).alloc (.cells #[.int .i64 1, .int .i64 0, .bool false, .bool true, .bool false] 63)) w.heap.size 63 #[.int .i64 0, .int .i64 0, .bool false, .bool false, .bool false] := ((Blk.new_ rfl rfl).alloc_ _)
  have hW : Below w.heap.size w ((w.alloc (.cells #[.int .i64 0, .int .i64 0, .bool false, .bool false, .bool false] 63)).alloc (.cells #[.int .i64 1, .int .i64 0, .bool false, .bool true, .bool false] 63)) := (by repeat' (first | with_reducible exact Below.refl _ _ | with_reducible assumption | with_reducible apply Below.drew | with_reducible apply below_drewN | with_reducible apply Below.alloc | with_reducible apply Below.setCell | (with_reducible refine Below.trans ?_ (Below.mono (by assumption) ?_)) | (simp; done) | (simp; omega) | omega | with_reducible apply le_size_alloc | with_reducible apply le_size_drewN | with_reducible apply le_size_drew | with_reducible apply le_size_setCell | refine Nat.le_trans ?_ (Below.size (by assumption))))
  have hWz : w.heap.size + 1 < ((w.alloc (.cells #[.int .i64 0, .int .i64 0, .bool false, .bool false, .bool false] 63)).alloc (.cells #[.int .i64 1, .int .i64 0, .bool false, .bool true, .bool false] 63)).heap.size := kE.lt
  have hWa : AL ((w.alloc (.cells #[.int .i64 0, .int .i64 0, .bool false, .bool false, .bool false] 63)).alloc (.cells #[.int .i64 1, .int .i64 0, .bool false, .bool true, .bool false] 63)) := hal.ext hW
  generalize ((w.alloc (.cells #[.int .i64 0, .int .i64 0, .bool false, .bool false, .bool false] 63)).alloc (.cells #[.int .i64 1, .int .i64 0, .bool false, .bool true, .bool false] 63)) = V at *
  refine (number1 _).mono ?_
  rintro e w1 ⟨rfl, hb1⟩
  have kE1 := kE.below_ hb1 hWz
  have kR1 := kR.below_ hb1 (by omega)
  have w1a : AL w1 := hWa.ext hb1
  have hz1 : w.heap.size + 1 < w1.heap.size := kE1.lt
  have r0 := kE1.cell_ 0; have rf0 := kE1.frozen_ 0
  have r1 := kE1.cell_ 1; have rf1 := kE1.frozen_ 1
  have r2 := kE1.cell_ 2; have rf2 := kE1.frozen_ 2
  have r3 := kE1.cell_ 3; have rf3 := kE1.frozen_ 3
  have r4 := kE1.cell_ 4; have rf4 := kE1.frozen_ 4
  simp at r0 r1 r2 r3 r4
  go_wp2_with fail
  have kE2 : Blk (w1.setCell ⟨w.heap.size + 1, 1, none⟩ (.int .i64 1)) (w.heap.size + 1) 63 #[.int .i64 1, .int .i64 1, .bool false, .bool true, .bool false] := kE1.set_ 1 (.int .i64 1)
  have kR2 := kR1.far_ (p := ⟨w.heap.size + 1, 1, none⟩) (by simp) (.int .i64 1)
  refine (eCheck_any 1 1 false true false _ (w1a.set (by simp) _)).mono ?_
  rw [hzc.out]
  rintro e w2 ⟨rfl, hb2⟩
  have kE3 := kE2.below_ hb2 (by simp; omega)
  have kR3 := kR2.below_ hb2 (by simp; omega)
  have hz3 : w.heap.size + 1 < w2.heap.size := kE3.lt
  clear r0 rf0 r1 rf1 r2 rf2 r3 rf3 r4 rf4
  have v0 := kE3.cell_ 0
  have v1 := kE3.cell_ 1
  have v2 := kE3.cell_ 2
  have v3 := kE3.cell_ 3
  have v4 := kE3.cell_ 4
  simp at v0 v1 v2 v3 v4
  have r0 := kR3.cell_ 0; have rf0 := kR3.frozen_ 0
  have r1 := kR3.cell_ 1; have rf1 := kR3.frozen_ 1
  have r2 := kR3.cell_ 2; have rf2 := kR3.frozen_ 2
  have r3 := kR3.cell_ 3; have rf3 := kR3.frozen_ 3
  have r4 := kR3.cell_ 4; have rf4 := kR3.frozen_ 4
  simp at r0 r1 r2 r3 r4
  have k' : Blk (((((w2.setCell ⟨w.heap.size, 0, none⟩ (.int .i64 1)).setCell ⟨w.heap.size, 1, none⟩ (.int .i64 1)).setCell ⟨w.heap.size, 2, none⟩ (.bool false)).setCell ⟨w.heap.size, 3, none⟩ (.bool true)).setCell ⟨w.heap.size, 4, none⟩ (.bool false)) w.heap.size 63 _ := (((((kR3.set_ 0 (.int .i64 1)).set_ 1 (.int .i64 1)).set_ 2 (.bool false)).set_ 3 (.bool true)).set_ 4 (.bool false))
  have t0 := k'.cell_ 0
  have t1 := k'.cell_ 1
  have t2 := k'.cell_ 2
  have t3 := k'.cell_ 3
  have t4 := k'.cell_ 4
  simp at t0 t1 t2 t3 t4
  clear k'
  have hBw : Below w.heap.size w w2 := (by repeat' (first | with_reducible exact Below.refl _ _ | with_reducible assumption | with_reducible apply Below.drew | with_reducible apply below_drewN | with_reducible apply Below.alloc | with_reducible apply Below.setCell | (with_reducible refine Below.trans ?_ (Below.mono (by assumption) ?_)) | (simp; done) | (simp; omega) | omega | with_reducible apply le_size_alloc | with_reducible apply le_size_drewN | with_reducible apply le_size_drew | with_reducible apply le_size_setCell | refine Nat.le_trans ?_ (Below.size (by assumption))))
  go_wp2
  refine bodyPost_ret (v := .tuple #[.agg #[.int .i64 1, .int .i64 1, .bool false, .bool true, .bool false], .int .i64 0]) (by simp [results, Tryz.results55, go_sem, t0, t1, t2, t3, t4]) rfl ?_
  exact ⟨rfl, (by repeat' (first | with_reducible exact Below.refl _ _ | with_reducible assumption | with_reducible apply Below.drew | with_reducible apply below_drewN | with_reducible apply Below.alloc | with_reducible apply Below.setCell | (with_reducible refine Below.trans ?_ (Below.mono (by assumption) ?_)) | (simp; done) | (simp; omega) | omega | with_reducible apply le_size_alloc | with_reducible apply le_size_drewN | with_reducible apply le_size_drew | with_reducible apply le_size_setCell | refine Nat.le_trans ?_ (Below.size (by assumption))))⟩

set_option maxRecDepth 100000 in
set_option maxHeartbeats 8000000 in
theorem parse_p3w (w : World) (hal : AL w) : Calls Tryz.prog 55 #[.string ⟨#[112, 51, 119]⟩] w fun e w' => e = .returned (.tuple #[entV 1 3 true false false, .int .i64 0]) ∧ Below w.heap.size w w' := by
  unfold entV
  have hzc : Hid (chkE 1 3 true false false = 0) := by show _ = _; decide
  go_enter Tryz.func55, Tryz.ntmps55
  go_wp2_with fail
  refine (sCutPrefixN ⟨#[112, 51, 119]⟩ ⟨#[115]⟩ 3 _ rfl (by decide) (by decide) rfl (by decide +kernel)).mono ?_
  rintro e w' ⟨rfl, rfl⟩
  go_wp2_with fail
  refine (sCutPrefixY ⟨#[112, 51, 119]⟩ ⟨#[112]⟩ ⟨#[51, 119]⟩ 3 _ rfl (by decide) (by decide) rfl (by decide +kernel) (by decide +kernel)).mono ?_
  rintro e w' ⟨rfl, rfl⟩
  go_wp2_with fail
  refine (sCutSuffixN ⟨#[51, 119]⟩ ⟨#[114]⟩ 1 _ rfl (by decide) rfl (by decide +kernel)).mono ?_
  rintro e w' ⟨rfl, rfl⟩
  go_wp2_with fail
  refine (sCutSuffixY ⟨#[51, 119]⟩ ⟨#[119]⟩ ⟨#[51]⟩ 1 _ rfl (by decide) rfl (by decide +kernel) (by decide +kernel)).mono ?_
  rintro e w' ⟨rfl, rfl⟩
  go_wp2_with fail
  have kE : Blk ((w.alloc (.cells #[.int .i64 0, .int .i64 0, .bool false, .bool false, .bool false] 63)).alloc (.cells #[.int .i64 1, .int .i64 0, .bool true, .bool false, .bool false] 63)) (w.heap.size + 1) 63 #[.int .i64 1, .int .i64 0, .bool true, .bool false, .bool false] := (Blk.new_ (by simp) rfl)
  have kR : Blk ((w.alloc (.cells #[.int .i64 0, .int .i64 0, .bool false, .bool false, .bool false] 63)).alloc (.cells #[.int .i64 1, .int .i64 0, .bool true, .bool false, .bool false] 63)) w.heap.size 63 #[.int .i64 0, .int .i64 0, .bool false, .bool false, .bool false] := ((Blk.new_ rfl rfl).alloc_ _)
  have hW : Below w.heap.size w ((w.alloc (.cells #[.int .i64 0, .int .i64 0, .bool false, .bool false, .bool false] 63)).alloc (.cells #[.int .i64 1, .int .i64 0, .bool true, .bool false, .bool false] 63)) := (by repeat' (first | with_reducible exact Below.refl _ _ | with_reducible assumption | with_reducible apply Below.drew | with_reducible apply below_drewN | with_reducible apply Below.alloc | with_reducible apply Below.setCell | (with_reducible refine Below.trans ?_ (Below.mono (by assumption) ?_)) | (simp; done) | (simp; omega) | omega | with_reducible apply le_size_alloc | with_reducible apply le_size_drewN | with_reducible apply le_size_drew | with_reducible apply le_size_setCell | refine Nat.le_trans ?_ (Below.size (by assumption))))
  have hWz : w.heap.size + 1 < ((w.alloc (.cells #[.int .i64 0, .int .i64 0, .bool false, .bool false, .bool false] 63)).alloc (.cells #[.int .i64 1, .int .i64 0, .bool true, .bool false, .bool false] 63)).heap.size := kE.lt
  have hWa : AL ((w.alloc (.cells #[.int .i64 0, .int .i64 0, .bool false, .bool false, .bool false] 63)).alloc (.cells #[.int .i64 1, .int .i64 0, .bool true, .bool false, .bool false] 63)) := hal.ext hW
  generalize ((w.alloc (.cells #[.int .i64 0, .int .i64 0, .bool false, .bool false, .bool false] 63)).alloc (.cells #[.int .i64 1, .int .i64 0, .bool true, .bool false, .bool false] 63)) = V at *
  refine (number3 _).mono ?_
  rintro e w1 ⟨rfl, hb1⟩
  have kE1 := kE.below_ hb1 hWz
  have kR1 := kR.below_ hb1 (by omega)
  have w1a : AL w1 := hWa.ext hb1
  have hz1 : w.heap.size + 1 < w1.heap.size := kE1.lt
  have r0 := kE1.cell_ 0; have rf0 := kE1.frozen_ 0
  have r1 := kE1.cell_ 1; have rf1 := kE1.frozen_ 1
  have r2 := kE1.cell_ 2; have rf2 := kE1.frozen_ 2
  have r3 := kE1.cell_ 3; have rf3 := kE1.frozen_ 3
  have r4 := kE1.cell_ 4; have rf4 := kE1.frozen_ 4
  simp at r0 r1 r2 r3 r4
  go_wp2_with fail
  have kE2 : Blk (w1.setCell ⟨w.heap.size + 1, 1, none⟩ (.int .i64 3)) (w.heap.size + 1) 63 #[.int .i64 1, .int .i64 3, .bool true, .bool false, .bool false] := kE1.set_ 1 (.int .i64 3)
  have kR2 := kR1.far_ (p := ⟨w.heap.size + 1, 1, none⟩) (by simp) (.int .i64 3)
  refine (eCheck_any 1 3 true false false _ (w1a.set (by simp) _)).mono ?_
  rw [hzc.out]
  rintro e w2 ⟨rfl, hb2⟩
  have kE3 := kE2.below_ hb2 (by simp; omega)
  have kR3 := kR2.below_ hb2 (by simp; omega)
  have hz3 : w.heap.size + 1 < w2.heap.size := kE3.lt
  clear r0 rf0 r1 rf1 r2 rf2 r3 rf3 r4 rf4
  have v0 := kE3.cell_ 0
  have v1 := kE3.cell_ 1
  have v2 := kE3.cell_ 2
  have v3 := kE3.cell_ 3
  have v4 := kE3.cell_ 4
  simp at v0 v1 v2 v3 v4
  have r0 := kR3.cell_ 0; have rf0 := kR3.frozen_ 0
  have r1 := kR3.cell_ 1; have rf1 := kR3.frozen_ 1
  have r2 := kR3.cell_ 2; have rf2 := kR3.frozen_ 2
  have r3 := kR3.cell_ 3; have rf3 := kR3.frozen_ 3
  have r4 := kR3.cell_ 4; have rf4 := kR3.frozen_ 4
  simp at r0 r1 r2 r3 r4
  have k' : Blk (((((w2.setCell ⟨w.heap.size, 0, none⟩ (.int .i64 1)).setCell ⟨w.heap.size, 1, none⟩ (.int .i64 3)).setCell ⟨w.heap.size, 2, none⟩ (.bool true)).setCell ⟨w.heap.size, 3, none⟩ (.bool false)).setCell ⟨w.heap.size, 4, none⟩ (.bool false)) w.heap.size 63 _ := (((((kR3.set_ 0 (.int .i64 1)).set_ 1 (.int .i64 3)).set_ 2 (.bool true)).set_ 3 (.bool false)).set_ 4 (.bool false))
  have t0 := k'.cell_ 0
  have t1 := k'.cell_ 1
  have t2 := k'.cell_ 2
  have t3 := k'.cell_ 3
  have t4 := k'.cell_ 4
  simp at t0 t1 t2 t3 t4
  clear k'
  have hBw : Below w.heap.size w w2 := (by repeat' (first | with_reducible exact Below.refl _ _ | with_reducible assumption | with_reducible apply Below.drew | with_reducible apply below_drewN | with_reducible apply Below.alloc | with_reducible apply Below.setCell | (with_reducible refine Below.trans ?_ (Below.mono (by assumption) ?_)) | (simp; done) | (simp; omega) | omega | with_reducible apply le_size_alloc | with_reducible apply le_size_drewN | with_reducible apply le_size_drew | with_reducible apply le_size_setCell | refine Nat.le_trans ?_ (Below.size (by assumption))))
  go_wp2
  refine bodyPost_ret (v := .tuple #[.agg #[.int .i64 1, .int .i64 3, .bool true, .bool false, .bool false], .int .i64 0]) (by simp [results, Tryz.results55, go_sem, t0, t1, t2, t3, t4]) rfl ?_
  exact ⟨rfl, (by repeat' (first | with_reducible exact Below.refl _ _ | with_reducible assumption | with_reducible apply Below.drew | with_reducible apply below_drewN | with_reducible apply Below.alloc | with_reducible apply Below.setCell | (with_reducible refine Below.trans ?_ (Below.mono (by assumption) ?_)) | (simp; done) | (simp; omega) | omega | with_reducible apply le_size_alloc | with_reducible apply le_size_drewN | with_reducible apply le_size_drew | with_reducible apply le_size_setCell | refine Nat.le_trans ?_ (Below.size (by assumption))))⟩

set_option maxRecDepth 100000 in
set_option maxHeartbeats 8000000 in
theorem parse_p4w (w : World) (hal : AL w) : Calls Tryz.prog 55 #[.string ⟨#[112, 52, 119]⟩] w fun e w' => e = .returned (.tuple #[entV 1 4 true false false, .int .i64 0]) ∧ Below w.heap.size w w' := by
  unfold entV
  have hzc : Hid (chkE 1 4 true false false = 0) := by show _ = _; decide
  go_enter Tryz.func55, Tryz.ntmps55
  go_wp2_with fail
  refine (sCutPrefixN ⟨#[112, 52, 119]⟩ ⟨#[115]⟩ 3 _ rfl (by decide) (by decide) rfl (by decide +kernel)).mono ?_
  rintro e w' ⟨rfl, rfl⟩
  go_wp2_with fail
  refine (sCutPrefixY ⟨#[112, 52, 119]⟩ ⟨#[112]⟩ ⟨#[52, 119]⟩ 3 _ rfl (by decide) (by decide) rfl (by decide +kernel) (by decide +kernel)).mono ?_
  rintro e w' ⟨rfl, rfl⟩
  go_wp2_with fail
  refine (sCutSuffixN ⟨#[52, 119]⟩ ⟨#[114]⟩ 1 _ rfl (by decide) rfl (by decide +kernel)).mono ?_
  rintro e w' ⟨rfl, rfl⟩
  go_wp2_with fail
  refine (sCutSuffixY ⟨#[52, 119]⟩ ⟨#[119]⟩ ⟨#[52]⟩ 1 _ rfl (by decide) rfl (by decide +kernel) (by decide +kernel)).mono ?_
  rintro e w' ⟨rfl, rfl⟩
  go_wp2_with fail
  have kE : Blk ((w.alloc (.cells #[.int .i64 0, .int .i64 0, .bool false, .bool false, .bool false] 63)).alloc (.cells #[.int .i64 1, .int .i64 0, .bool true, .bool false, .bool false] 63)) (w.heap.size + 1) 63 #[.int .i64 1, .int .i64 0, .bool true, .bool false, .bool false] := (Blk.new_ (by simp) rfl)
  have kR : Blk ((w.alloc (.cells #[.int .i64 0, .int .i64 0, .bool false, .bool false, .bool false] 63)).alloc (.cells #[.int .i64 1, .int .i64 0, .bool true, .bool false, .bool false] 63)) w.heap.size 63 #[.int .i64 0, .int .i64 0, .bool false, .bool false, .bool false] := ((Blk.new_ rfl rfl).alloc_ _)
  have hW : Below w.heap.size w ((w.alloc (.cells #[.int .i64 0, .int .i64 0, .bool false, .bool false, .bool false] 63)).alloc (.cells #[.int .i64 1, .int .i64 0, .bool true, .bool false, .bool false] 63)) := (by repeat' (first | with_reducible exact Below.refl _ _ | with_reducible assumption | with_reducible apply Below.drew | with_reducible apply below_drewN | with_reducible apply Below.alloc | with_reducible apply Below.setCell | (with_reducible refine Below.trans ?_ (Below.mono (by assumption) ?_)) | (simp; done) | (simp; omega) | omega | with_reducible apply le_size_alloc | with_reducible apply le_size_drewN | with_reducible apply le_size_drew | with_reducible apply le_size_setCell | refine Nat.le_trans ?_ (Below.size (by assumption))))
  have hWz : w.heap.size + 1 < ((w.alloc (.cells #[.int .i64 0, .int .i64 0, .bool false, .bool false, .bool false] 63)).alloc (.cells #[.int .i64 1, .int .i64 0, .bool true, .bool false, .bool false] 63)).heap.size := kE.lt
  have hWa : AL ((w.alloc (.cells #[.int .i64 0, .int .i64 0, .bool false, .bool false, .bool false] 63)).alloc (.cells #[.int .i64 1, .int .i64 0, .bool true, .bool false, .bool false] 63)) := hal.ext hW
  generalize ((w.alloc (.cells #[.int .i64 0, .int .i64 0, .bool false, .bool false, .bool false] 63)).alloc (.cells #[.int .i64 1, .int .i64 0, .bool true, .bool false, .bool false] 63)) = V at *
  refine (number4 _).mono ?_
  rintro e w1 ⟨rfl, hb1⟩
  have kE1 := kE.below_ hb1 hWz
  have kR1 := kR.below_ hb1 (by omega)
  have w1a : AL w1 := hWa.ext hb1
  have hz1 : w.heap.size + 1 < w1.heap.size := kE1.lt
  have r0 := kE1.cell_ 0; have rf0 := kE1.frozen_ 0
  have r1 := kE1.cell_ 1; have rf1 := kE1.frozen_ 1
  have r2 := kE1.cell_ 2; have rf2 := kE1.frozen_ 2
  have r3 := kE1.cell_ 3; have rf3 := kE1.frozen_ 3
  have r4 := kE1.cell_ 4; have rf4 := kE1.frozen_ 4
  simp at r0 r1 r2 r3 r4
  go_wp2_with fail
  have kE2 : Blk (w1.setCell ⟨w.heap.size + 1, 1, none⟩ (.int .i64 4)) (w.heap.size + 1) 63 #[.int .i64 1, .int .i64 4, .bool true, .bool false, .bool false] := kE1.set_ 1 (.int .i64 4)
  have kR2 := kR1.far_ (p := ⟨w.heap.size + 1, 1, none⟩) (by simp) (.int .i64 4)
  refine (eCheck_any 1 4 true false false _ (w1a.set (by simp) _)).mono ?_
  rw [hzc.out]
  rintro e w2 ⟨rfl, hb2⟩
  have kE3 := kE2.below_ hb2 (by simp; omega)
  have kR3 := kR2.below_ hb2 (by simp; omega)
  have hz3 : w.heap.size + 1 < w2.heap.size := kE3.lt
  clear r0 rf0 r1 rf1 r2 rf2 r3 rf3 r4 rf4
  have v0 := kE3.cell_ 0
  have v1 := kE3.cell_ 1
  have v2 := kE3.cell_ 2
  have v3 := kE3.cell_ 3
  have v4 := kE3.cell_ 4
  simp at v0 v1 v2 v3 v4
  have r0 := kR3.cell_ 0; have rf0 := kR3.frozen_ 0
  have r1 := kR3.cell_ 1; have rf1 := kR3.frozen_ 1
  have r2 := kR3.cell_ 2; have rf2 := kR3.frozen_ 2
  have r3 := kR3.cell_ 3; have rf3 := kR3.frozen_ 3
  have r4 := kR3.cell_ 4; have rf4 := kR3.frozen_ 4
  simp at r0 r1 r2 r3 r4
  have k' : Blk (((((w2.setCell ⟨w.heap.size, 0, none⟩ (.int .i64 1)).setCell ⟨w.heap.size, 1, none⟩ (.int .i64 4)).setCell ⟨w.heap.size, 2, none⟩ (.bool true)).setCell ⟨w.heap.size, 3, none⟩ (.bool false)).setCell ⟨w.heap.size, 4, none⟩ (.bool false)) w.heap.size 63 _ := (((((kR3.set_ 0 (.int .i64 1)).set_ 1 (.int .i64 4)).set_ 2 (.bool true)).set_ 3 (.bool false)).set_ 4 (.bool false))
  have t0 := k'.cell_ 0
  have t1 := k'.cell_ 1
  have t2 := k'.cell_ 2
  have t3 := k'.cell_ 3
  have t4 := k'.cell_ 4
  simp at t0 t1 t2 t3 t4
  clear k'
  have hBw : Below w.heap.size w w2 := (by repeat' (first | with_reducible exact Below.refl _ _ | with_reducible assumption | with_reducible apply Below.drew | with_reducible apply below_drewN | with_reducible apply Below.alloc | with_reducible apply Below.setCell | (with_reducible refine Below.trans ?_ (Below.mono (by assumption) ?_)) | (simp; done) | (simp; omega) | omega | with_reducible apply le_size_alloc | with_reducible apply le_size_drewN | with_reducible apply le_size_drew | with_reducible apply le_size_setCell | refine Nat.le_trans ?_ (Below.size (by assumption))))
  go_wp2
  refine bodyPost_ret (v := .tuple #[.agg #[.int .i64 1, .int .i64 4, .bool true, .bool false, .bool false], .int .i64 0]) (by simp [results, Tryz.results55, go_sem, t0, t1, t2, t3, t4]) rfl ?_
  exact ⟨rfl, (by repeat' (first | with_reducible exact Below.refl _ _ | with_reducible assumption | with_reducible apply Below.drew | with_reducible apply below_drewN | with_reducible apply Below.alloc | with_reducible apply Below.setCell | (with_reducible refine Below.trans ?_ (Below.mono (by assumption) ?_)) | (simp; done) | (simp; omega) | omega | with_reducible apply le_size_alloc | with_reducible apply le_size_drewN | with_reducible apply le_size_drew | with_reducible apply le_size_setCell | refine Nat.le_trans ?_ (Below.size (by assumption))))⟩
end Go.Proofs.YtmbpjafiinfkkaaGreatDoor
