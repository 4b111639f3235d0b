/- Package entry: Unpack; the reference's. -/
import Derived.Test.YtmbpjafiinfkkaaGreatDoorOE2
namespace Go.Proofs.YtmbpjafiinfkkaaGreatDoor
set_option linter.unusedSimpArgs false
set_option linter.unusedVariables false
open Go.RowKit Go.Maps

def eK (x : Nat) : Int := ((x % 4 : Nat) : Int)
def eN (x : Nat) : Int := ((x / 256 % 256 : Nat) : Int)
def eA (x : Nat) : Bool := decide (x / 4 % 2 = 1)
def eB (x : Nat) : Bool := decide (x / 8 % 2 = 1)
def eC (x : Nat) : Bool := decide (x / 16 % 2 = 1)
/-- The error of a word. -/
def unpE (x : Nat) : Int := if x % 4 = 3 then 16 else if x / 32 % 8 ≠ 0 ∨ x / 65536 ≠ 0 then 3 else chkE (eK x) (eN x) (eA x) (eB x) (eC x)
def unpV (x : Nat) : Value := .tuple #[if unpE x = 0 then entV (eK x) (eN x) (eA x) (eB x) (eC x) else entV 0 0 false false false, .int .i64 (unpE x)]

/-- The bits of a word that no field has. -/
def restN (x : Nat) : Nat := x &&& 18446744073709486304
theorem restN_zero (x : Nat) (hx : x < 18446744073709551616) : restN x = 0 ↔ (x / 32 % 8 = 0 ∧ x / 65536 = 0) := by
  have h1 : restN x % 32 = 0 := by
    have := Nat.and_mod_two_pow (a := x) (b := 18446744073709486304) (n := 5)
    rw [show (18446744073709486304 % 2 ^ 5 : Nat) = 0 from by decide, Nat.and_zero] at this
    exact this
  have h2 : restN x / 32 % 8 = x / 32 % 8 := by
    have e1 := Nat.and_div_two_pow (a := x) (b := 18446744073709486304) (n := 5)
    have e2 := Nat.and_mod_two_pow (a := x / 2 ^ 5) (b := 18446744073709486304 / 2 ^ 5) (n := 3)
    rw [← e1, show (18446744073709486304 / 2 ^ 5 % 2 ^ 3 : Nat) = 7 from by decide, and7, Nat.mod_mod] at e2
    exact e2
  have h3 : restN x / 256 % 256 = 0 := by
    have e1 := Nat.and_div_two_pow (a := x) (b := 18446744073709486304) (n := 8)
    have e2 := Nat.and_mod_two_pow (a := x / 2 ^ 8) (b := 18446744073709486304 / 2 ^ 8) (n := 8)
    rw [← e1, show (18446744073709486304 / 2 ^ 8 % 2 ^ 8 : Nat) = 0 from by decide, Nat.and_zero] at e2
    exact e2
  have h4 : restN x / 65536 = x / 65536 := by
    have e1 := Nat.and_div_two_pow (a := x) (b := 18446744073709486304) (n := 16)
    rw [show (18446744073709486304 / 2 ^ 16 : Nat) = 2 ^ 48 - 1 from by decide, Nat.and_two_pow_sub_one_eq_mod] at e1
    have e2 : x / 2 ^ 16 % 2 ^ 48 = x / 65536 := Nat.mod_eq_of_lt (by omega)
    rw [e2] at e1
    exact e1
  omega
theorem restN_lt (x : Nat) (hx : x < 18446744073709551616) : restN x < 18446744073709551616 := Nat.lt_of_le_of_lt Nat.and_le_left hx
theorem bits_andNot_rest (x : Nat) (hx : x < 18446744073709551616) : bits .andNot .u64 (x : Int) 65311 = ((restN x : Nat) : Int) := by
  have h1 : (BitVec.ofInt 64 (x : Int)).toNat = x := by
    rw [BitVec.ofInt_natCast, BitVec.toNat_ofNat]; exact Nat.mod_eq_of_lt (by omega)
  show IntKind.u64.wrap ((BitVec.ofInt 64 (x : Int) &&& ~~~ BitVec.ofInt 64 65311).toNat : Int) = _
  have h2 : (~~~ BitVec.ofInt 64 65311) = (18446744073709486304#64) := by decide
  rw [h2, BitVec.toNat_and, h1]
  show IntKind.u64.wrap ((restN x : Nat) : Int) = _
  have := restN_lt x hx
  rw [IntKind.wrap_u64]
  omega
theorem has_parts (x : Nat) : (!(x / 4 % 8 &&& 1 == 0)) = eA x ∧ (!(x / 4 % 8 &&& 2 == 0)) = eB x ∧ (!(x / 4 % 8 &&& 4 == 0)) = eC x := by
  obtain ⟨h1, h2, h3⟩ := has1 (x / 4 % 8) (by omega)
  rw [h1, h2, h3]
  unfold eA eB eC
  refine ⟨?_, ?_, ?_⟩ <;> (rw [decide_eq_decide]; omega)


set_option maxRecDepth 100000 in
set_option maxHeartbeats 8000000 in
theorem unp16 (x : Nat) (w : World) (hal : AL w) (hx : x < 18446744073709551616) (h : x % 4 = 3) : Calls Tryz.prog 39 #[.int .u64 x] w fun e w' => e = .returned (.tuple #[entV 0 0 false false false, .int .i64 16]) ∧ Below w.heap.size w w' := by
  have H := Lib.hid h
  clear h
  unfold entV
  have h0 := hal.1
  go_enter Tryz.func39, Tryz.ntmps39
  go_wp2_with fail
  refine (Kind_any x _ (hal.ext (by repeat' (first | with_reducible exact Below.refl _ _ | with_reducible assumption | with_reducible apply Below.drew | with_reducible apply below_drewN | with_reducible apply Below.alloc | with_reducible apply Below.setCell | (with_reducible refine Below.trans ?_ (Below.mono (by assumption) ?_)) | (simp; done) | (simp; omega) | omega | with_reducible apply le_size_alloc | with_reducible apply le_size_drewN | with_reducible apply le_size_drew | with_reducible apply le_size_setCell | refine Nat.le_trans ?_ (Below.size (by assumption))))) hx).mono ?_
  rw [if_pos H.out]
  rintro e w1 ⟨rfl, hb1⟩
  have kR : Blk w1 w.heap.size 63 #[.int .i64 0, .int .i64 0, .bool false, .bool false, .bool false] := (Blk.new_ rfl rfl).below_ hb1 (by simp)
  have w1a : AL w1 := hal.ext (by repeat' (first | with_reducible exact Below.refl _ _ | with_reducible assumption | with_reducible apply Below.drew | with_reducible apply below_drewN | with_reducible apply Below.alloc | with_reducible apply Below.setCell | (with_reducible refine Below.trans ?_ (Below.mono (by assumption) ?_)) | (simp; done) | (simp; omega) | omega | with_reducible apply le_size_alloc | with_reducible apply le_size_drewN | with_reducible apply le_size_drew | with_reducible apply le_size_setCell | refine Nat.le_trans ?_ (Below.size (by assumption))))
  have hz1 : w.heap.size < w1.heap.size := kR.lt
  have r0 := kR.cell_ 0; have rf0 := kR.frozen_ 0
  have r1 := kR.cell_ 1; have rf1 := kR.frozen_ 1
  have r2 := kR.cell_ 2; have rf2 := kR.frozen_ 2
  have r3 := kR.cell_ 3; have rf3 := kR.frozen_ 3
  have r4 := kR.cell_ 4; have rf4 := kR.frozen_ 4
  simp at r0 r1 r2 r3 r4
  have k' : Blk (((((w1.setCell ⟨w.heap.size, 0, none⟩ (.int .i64 0)).setCell ⟨w.heap.size, 1, none⟩ (.int .i64 0)).setCell ⟨w.heap.size, 2, none⟩ (.bool false)).setCell ⟨w.heap.size, 3, none⟩ (.bool false)).setCell ⟨w.heap.size, 4, none⟩ (.bool false)) w.heap.size 63 _ := (((((kR.set_ 0 (.int .i64 0)).set_ 1 (.int .i64 0)).set_ 2 (.bool false)).set_ 3 (.bool false)).set_ 4 (.bool false))
  have t0 := k'.cell_ 0
  have t1 := k'.cell_ 1
  have t2 := k'.cell_ 2
  have t3 := k'.cell_ 3
  have t4 := k'.cell_ 4
  simp at t0 t1 t2 t3 t4
  clear k'
  go_wp2
  refine bodyPost_ret (v := .tuple #[.agg #[.int .i64 0, .int .i64 0, .bool false, .bool false, .bool false], .int .i64 16]) (by simp [results, Tryz.results39, go_sem, t0, t1, t2, t3, t4]) rfl ?_
  exact ⟨rfl, (by repeat' (first | with_reducible exact Below.refl _ _ | with_reducible assumption | with_reducible apply Below.drew | with_reducible apply below_drewN | with_reducible apply Below.alloc | with_reducible apply Below.setCell | (with_reducible refine Below.trans ?_ (Below.mono (by assumption) ?_)) | (simp; done) | (simp; omega) | omega | with_reducible apply le_size_alloc | with_reducible apply le_size_drewN | with_reducible apply le_size_drew | with_reducible apply le_size_setCell | refine Nat.le_trans ?_ (Below.size (by assumption))))⟩

set_option maxRecDepth 100000 in
set_option maxHeartbeats 8000000 in
theorem unp3 (x : Nat) (w : World) (hal : AL w) (hx : x < 18446744073709551616) (h : x % 4 ≠ 3) (hr : restN x ≠ 0) : Calls Tryz.prog 39 #[.int .u64 x] w fun e w' => e = .returned (.tuple #[entV 0 0 false false false, .int .i64 3]) ∧ Below w.heap.size w w' := by
  have H := Lib.hid h
  clear h
  have hbn := bits_andNot_rest x hx
  have hb0 : ((restN x : Nat) : Int) ≠ 0 := by omega
  generalize ((restN x : Nat) : Int) = rx at hbn hb0
  have hb3 : (rx != 0) = true := by simpa using hb0
  clear hr hb0
  unfold entV
  have h0 := hal.1
  go_enter Tryz.func39, Tryz.ntmps39
  go_wp2_with fail
  refine (Kind_any x _ (hal.ext (by repeat' (first | with_reducible exact Below.refl _ _ | with_reducible assumption | with_reducible apply Below.drew | with_reducible apply below_drewN | with_reducible apply Below.alloc | with_reducible apply Below.setCell | (with_reducible refine Below.trans ?_ (Below.mono (by assumption) ?_)) | (simp; done) | (simp; omega) | omega | with_reducible apply le_size_alloc | with_reducible apply le_size_drewN | with_reducible apply le_size_drew | with_reducible apply le_size_setCell | refine Nat.le_trans ?_ (Below.size (by assumption))))) hx).mono ?_
  rw [if_neg H.out]
  rintro e w1 ⟨rfl, hb1⟩
  have kR : Blk w1 w.heap.size 63 #[.int .i64 0, .int .i64 0, .bool false, .bool false, .bool false] := (Blk.new_ rfl rfl).below_ hb1 (by simp)
  have w1a : AL w1 := hal.ext (by repeat' (first | with_reducible exact Below.refl _ _ | with_reducible assumption | with_reducible apply Below.drew | with_reducible apply below_drewN | with_reducible apply Below.alloc | with_reducible apply Below.setCell | (with_reducible refine Below.trans ?_ (Below.mono (by assumption) ?_)) | (simp; done) | (simp; omega) | omega | with_reducible apply le_size_alloc | with_reducible apply le_size_drewN | with_reducible apply le_size_drew | with_reducible apply le_size_setCell | refine Nat.le_trans ?_ (Below.size (by assumption))))
  have hz1 : w.heap.size < w1.heap.size := kR.lt
  have lz := w1a.1
  have c0 : w1.cell? ⟨0, 0, none⟩ = some (.int .u64 0) := w1a.2 0 _ rfl
  have c1 : w1.cell? ⟨0, 1, none⟩ = some (.int .u64 3) := w1a.2 1 _ rfl
  have c2 : w1.cell? ⟨0, 2, none⟩ = some (.int .u64 2) := w1a.2 2 _ rfl
  have c3 : w1.cell? ⟨0, 3, none⟩ = some (.int .u64 7) := w1a.2 3 _ rfl
  have c4 : w1.cell? ⟨0, 4, none⟩ = some (.int .u64 8) := w1a.2 4 _ rfl
  have c5 : w1.cell? ⟨0, 5, none⟩ = some (.int .u64 255) := w1a.2 5 _ rfl
  go_wp2_with fail
  refine (word_any 3 7 255 _ _ _ (w1a.ext (by repeat' (first | with_reducible exact Below.refl _ _ | with_reducible assumption | with_reducible apply Below.drew | with_reducible apply below_drewN | with_reducible apply Below.alloc | with_reducible apply Below.setCell | (with_reducible refine Below.trans ?_ (Below.mono (by assumption) ?_)) | (simp; done) | (simp; omega) | omega | with_reducible apply le_size_alloc | with_reducible apply le_size_drewN | with_reducible apply le_size_drew | with_reducible apply le_size_setCell | refine Nat.le_trans ?_ (Below.size (by assumption))))) (by decide) (by decide) (by decide) (Sl.of_lit (Blk.new_ rfl rfl))).mono ?_
  rintro e w2 ⟨rfl, hb2⟩
  have kR2 := (kR.alloc_ _).below_ hb2 (by simp; omega)
  have w2a : AL w2 := w1a.ext (by repeat' (first | with_reducible exact Below.refl _ _ | with_reducible assumption | with_reducible apply Below.drew | with_reducible apply below_drewN | with_reducible apply Below.alloc | with_reducible apply Below.setCell | (with_reducible refine Below.trans ?_ (Below.mono (by assumption) ?_)) | (simp; done) | (simp; omega) | omega | with_reducible apply le_size_alloc | with_reducible apply le_size_drewN | with_reducible apply le_size_drew | with_reducible apply le_size_setCell | refine Nat.le_trans ?_ (Below.size (by assumption))))
  have hz2 : w.heap.size < w2.heap.size := kR2.lt
  clear c0 c1 c2 c3 c4 c5 lz
  have r0 := kR2.cell_ 0; have rf0 := kR2.frozen_ 0
  have r1 := kR2.cell_ 1; have rf1 := kR2.frozen_ 1
  have r2 := kR2.cell_ 2; have rf2 := kR2.frozen_ 2
  have r3 := kR2.cell_ 3; have rf3 := kR2.frozen_ 3
  have r4 := kR2.cell_ 4; have rf4 := kR2.frozen_ 4
  simp at r0 r1 r2 r3 r4
  have k' : Blk (((((w2.setCell ⟨w.heap.size, 0, none⟩ (.int .i64 0)).setCell ⟨w.heap.size, 1, none⟩ (.int .i64 0)).setCell ⟨w.heap.size, 2, none⟩ (.bool false)).setCell ⟨w.heap.size, 3, none⟩ (.bool false)).setCell ⟨w.heap.size, 4, none⟩ (.bool false)) w.heap.size 63 _ := (((((kR2.set_ 0 (.int .i64 0)).set_ 1 (.int .i64 0)).set_ 2 (.bool false)).set_ 3 (.bool false)).set_ 4 (.bool false))
  have t0 := k'.cell_ 0
  have t1 := k'.cell_ 1
  have t2 := k'.cell_ 2
  have t3 := k'.cell_ 3
  have t4 := k'.cell_ 4
  simp at t0 t1 t2 t3 t4
  clear k'
  go_wp2
  refine bodyPost_ret (v := .tuple #[.agg #[.int .i64 0, .int .i64 0, .bool false, .bool false, .bool false], .int .i64 3]) (by simp [results, Tryz.results39, go_sem, t0, t1, t2, t3, t4]) rfl ?_
  exact ⟨rfl, (by repeat' (first | with_reducible exact Below.refl _ _ | with_reducible assumption | with_reducible apply Below.drew | with_reducible apply below_drewN | with_reducible apply Below.alloc | with_reducible apply Below.setCell | (with_reducible refine Below.trans ?_ (Below.mono (by assumption) ?_)) | (simp; done) | (simp; omega) | omega | with_reducible apply le_size_alloc | with_reducible apply le_size_drewN | with_reducible apply le_size_drew | with_reducible apply le_size_setCell | refine Nat.le_trans ?_ (Below.size (by assumption))))⟩

set_option maxRecDepth 100000 in
set_option maxHeartbeats 8000000 in
theorem unpZ (x : Nat) (z : Int) (w : World) (hal : AL w) (hx : x < 18446744073709551616) (h : x % 4 ≠ 3) (hr : restN x = 0) (hz : chkE (((x % 4 : Nat)) : Int) (((x / 256 % 256 : Nat)) : Int) (eA x) (eB x) (eC x) = z) (hz0 : z ≠ 0) : Calls Tryz.prog 39 #[.int .u64 x] w fun e w' => e = .returned (.tuple #[entV 0 0 false false false, .int .i64 z]) ∧ Below w.heap.size w w' := by
  have hzb : (z != 0) = true := by simpa using hz0
  clear hz0
  have H := Lib.hid h
  clear h
  have hbn := bits_andNot_rest x hx
  rw [hr] at hbn
  have HP := has_parts x
  obtain ⟨k, hk⟩ : ∃ k : Nat, x % 4 = k := ⟨_, rfl⟩
  obtain ⟨f, hf⟩ : ∃ f : Nat, x / 4 % 8 = f := ⟨_, rfl⟩
  obtain ⟨n, hn⟩ : ∃ n : Nat, x / 256 % 256 = n := ⟨_, rfl⟩
  rw [hk, hn] at hz
  have hk4 : k < 4 := by omega
  have hf8 : f < 8 := by omega
  have hn2 : n < 256 := by omega
  rw [hf] at HP
  generalize eA x = a at *
  generalize eB x = b at *
  generalize eC x = c at *
  obtain ⟨ha, hb, hc⟩ := HP
  have HK := Lib.hid hk; have HF := Lib.hid hf; have HN := Lib.hid hn; have HA := Lib.hid ha; have HBB := Lib.hid hb; have HC := Lib.hid hc
  clear hk hf hn ha hb hc hr
  have HZ := Lib.hid hz
  clear hz
  unfold entV
  have h0 := hal.1
  go_enter Tryz.func39, Tryz.ntmps39
  go_wp2_with fail
  refine (Kind_any x _ (hal.ext (by repeat' (first | with_reducible exact Below.refl _ _ | with_reducible assumption | with_reducible apply Below.drew | with_reducible apply below_drewN | with_reducible apply Below.alloc | with_reducible apply Below.setCell | (with_reducible refine Below.trans ?_ (Below.mono (by assumption) ?_)) | (simp; done) | (simp; omega) | omega | with_reducible apply le_size_alloc | with_reducible apply le_size_drewN | with_reducible apply le_size_drew | with_reducible apply le_size_setCell | refine Nat.le_trans ?_ (Below.size (by assumption))))) hx).mono ?_
  rw [if_neg H.out, HK.out]
  rintro e w1 ⟨rfl, hb1⟩
  have kR : Blk w1 w.heap.size 63 #[.int .i64 0, .int .i64 0, .bool false, .bool false, .bool false] := (Blk.new_ rfl rfl).below_ hb1 (by simp)
  have w1a : AL w1 := hal.ext (by repeat' (first | with_reducible exact Below.refl _ _ | with_reducible assumption | with_reducible apply Below.drew | with_reducible apply below_drewN | with_reducible apply Below.alloc | with_reducible apply Below.setCell | (with_reducible refine Below.trans ?_ (Below.mono (by assumption) ?_)) | (simp; done) | (simp; omega) | omega | with_reducible apply le_size_alloc | with_reducible apply le_size_drewN | with_reducible apply le_size_drew | with_reducible apply le_size_setCell | refine Nat.le_trans ?_ (Below.size (by assumption))))
  have hz1 : w.heap.size < w1.heap.size := kR.lt
  have lz := w1a.1
  have c0 : w1.cell? ⟨0, 0, none⟩ = some (.int .u64 0) := w1a.2 0 _ rfl
  have c1 : w1.cell? ⟨0, 1, none⟩ = some (.int .u64 3) := w1a.2 1 _ rfl
  have c2 : w1.cell? ⟨0, 2, none⟩ = some (.int .u64 2) := w1a.2 2 _ rfl
  have c3 : w1.cell? ⟨0, 3, none⟩ = some (.int .u64 7) := w1a.2 3 _ rfl
  have c4 : w1.cell? ⟨0, 4, none⟩ = some (.int .u64 8) := w1a.2 4 _ rfl
  have c5 : w1.cell? ⟨0, 5, none⟩ = some (.int .u64 255) := w1a.2 5 _ rfl
  go_wp2_with fail
  refine (word_any 3 7 255 _ _ _ (w1a.ext (by repeat' (first | with_reducible exact Below.refl _ _ | with_reducible assumption | with_reducible apply Below.drew | with_reducible apply below_drewN | with_reducible apply Below.alloc | with_reducible apply Below.setCell | (with_reducible refine Below.trans ?_ (Below.mono (by assumption) ?_)) | (simp; done) | (simp; omega) | omega | with_reducible apply le_size_alloc | with_reducible apply le_size_drewN | with_reducible apply le_size_drew | with_reducible apply le_size_setCell | refine Nat.le_trans ?_ (Below.size (by assumption))))) (by decide) (by decide) (by decide) (Sl.of_lit (Blk.new_ rfl rfl))).mono ?_
  rintro e w2 ⟨rfl, hb2⟩
  have kR2 := (kR.alloc_ _).below_ hb2 (by simp; omega)
  have w2a : AL w2 := w1a.ext (by repeat' (first | with_reducible exact Below.refl _ _ | with_reducible assumption | with_reducible apply Below.drew | with_reducible apply below_drewN | with_reducible apply Below.alloc | with_reducible apply Below.setCell | (with_reducible refine Below.trans ?_ (Below.mono (by assumption) ?_)) | (simp; done) | (simp; omega) | omega | with_reducible apply le_size_alloc | with_reducible apply le_size_drewN | with_reducible apply le_size_drew | with_reducible apply le_size_setCell | refine Nat.le_trans ?_ (Below.size (by assumption))))
  have hz2 : w.heap.size < w2.heap.size := kR2.lt
  clear c0 c1 c2 c3 c4 c5 lz
  go_wp2_with fail
  refine (part1 x _ (w2a.ext (by repeat' (first | with_reducible exact Below.refl _ _ | with_reducible assumption | with_reducible apply Below.drew | with_reducible apply below_drewN | with_reducible apply Below.alloc | with_reducible apply Below.setCell | (with_reducible refine Below.trans ?_ (Below.mono (by assumption) ?_)) | (simp; done) | (simp; omega) | omega | with_reducible apply le_size_alloc | with_reducible apply le_size_drewN | with_reducible apply le_size_drew | with_reducible apply le_size_setCell | refine Nat.le_trans ?_ (Below.size (by assumption))))) hx).mono ?_
  rw [HF.out]
  rintro e w3 ⟨rfl, hb3⟩
  have w3a : AL w3 := w2a.ext (by repeat' (first | with_reducible exact Below.refl _ _ | with_reducible assumption | with_reducible apply Below.drew | with_reducible apply below_drewN | with_reducible apply Below.alloc | with_reducible apply Below.setCell | (with_reducible refine Below.trans ?_ (Below.mono (by assumption) ?_)) | (simp; done) | (simp; omega) | omega | with_reducible apply le_size_alloc | with_reducible apply le_size_drewN | with_reducible apply le_size_drew | with_reducible apply le_size_setCell | refine Nat.le_trans ?_ (Below.size (by assumption))))
  have kR3 := kR2.below_ hb3 hz2
  have hz3 : w.heap.size < w3.heap.size := kR3.lt
  go_wp2_with fail
  refine (part2 x _ (w3a.ext (by repeat' (first | with_reducible exact Below.refl _ _ | with_reducible assumption | with_reducible apply Below.drew | with_reducible apply below_drewN | with_reducible apply Below.alloc | with_reducible apply Below.setCell | (with_reducible refine Below.trans ?_ (Below.mono (by assumption) ?_)) | (simp; done) | (simp; omega) | omega | with_reducible apply le_size_alloc | with_reducible apply le_size_drewN | with_reducible apply le_size_drew | with_reducible apply le_size_setCell | refine Nat.le_trans ?_ (Below.size (by assumption))))) hx).mono ?_
  rw [HN.out]
  rintro e w4 ⟨rfl, hb4⟩
  have w4a : AL w4 := w3a.ext (by repeat' (first | with_reducible exact Below.refl _ _ | with_reducible assumption | with_reducible apply Below.drew | with_reducible apply below_drewN | with_reducible apply Below.alloc | with_reducible apply Below.setCell | (with_reducible refine Below.trans ?_ (Below.mono (by assumption) ?_)) | (simp; done) | (simp; omega) | omega | with_reducible apply le_size_alloc | with_reducible apply le_size_drewN | with_reducible apply le_size_drew | with_reducible apply le_size_setCell | refine Nat.le_trans ?_ (Below.size (by assumption))))
  have kR4 := kR3.below_ hb4 hz3
  have hz4 : w.heap.size < w4.heap.size := kR4.lt
  go_wp2_with fail
  refine (fhas_any f 1 _ hf8 (by decide)).mono ?_
  rw [HA.out]
  rintro e w' ⟨rfl, rfl⟩
  go_wp2_with fail
  refine (fhas_any f 2 _ hf8 (by decide)).mono ?_
  rw [HBB.out]
  rintro e w' ⟨rfl, rfl⟩
  go_wp2_with fail
  refine (fhas_any f 4 _ hf8 (by decide)).mono ?_
  rw [HC.out]
  rintro e w' ⟨rfl, rfl⟩
  go_wp2_with fail
  refine (eCheck_any k n a b c _ (w4a.ext (by repeat' (first | with_reducible exact Below.refl _ _ | with_reducible assumption | with_reducible apply Below.drew | with_reducible apply below_drewN | with_reducible apply Below.alloc | with_reducible apply Below.setCell | (with_reducible refine Below.trans ?_ (Below.mono (by assumption) ?_)) | (simp; done) | (simp; omega) | omega | with_reducible apply le_size_alloc | with_reducible apply le_size_drewN | with_reducible apply le_size_drew | with_reducible apply le_size_setCell | refine Nat.le_trans ?_ (Below.size (by assumption)))))).mono ?_
  rw [HZ.out]
  rintro e w5 ⟨rfl, hb5⟩
  have kE : Blk w5 w4.heap.size 63 #[.int .i64 k, .int .i64 n, .bool a, .bool b, .bool c] := (Blk.new_ rfl rfl).below_ hb5 (by simp)
  have kR5 := (kR4.alloc_ _).below_ hb5 (by simp; omega)
  have hz5 : w.heap.size < w5.heap.size := kR5.lt
  have hzE : w4.heap.size < w5.heap.size := kE.lt
  have r0 := kR5.cell_ 0; have rf0 := kR5.frozen_ 0
  have r1 := kR5.cell_ 1; have rf1 := kR5.frozen_ 1
  have r2 := kR5.cell_ 2; have rf2 := kR5.frozen_ 2
  have r3 := kR5.cell_ 3; have rf3 := kR5.frozen_ 3
  have r4 := kR5.cell_ 4; have rf4 := kR5.frozen_ 4
  simp at r0 r1 r2 r3 r4
  have k' : Blk (((((w5.setCell ⟨w.heap.size, 0, none⟩ (.int .i64 0)).setCell ⟨w.heap.size, 1, none⟩ (.int .i64 0)).setCell ⟨w.heap.size, 2, none⟩ (.bool false)).setCell ⟨w.heap.size, 3, none⟩ (.bool false)).setCell ⟨w.heap.size, 4, none⟩ (.bool false)) w.heap.size 63 _ := (((((kR5.set_ 0 (.int .i64 0)).set_ 1 (.int .i64 0)).set_ 2 (.bool false)).set_ 3 (.bool false)).set_ 4 (.bool false))
  have t0 := k'.cell_ 0
  have t1 := k'.cell_ 1
  have t2 := k'.cell_ 2
  have t3 := k'.cell_ 3
  have t4 := k'.cell_ 4
  simp at t0 t1 t2 t3 t4
  clear k'
  go_wp2
  refine bodyPost_ret (v := .tuple #[.agg #[.int .i64 0, .int .i64 0, .bool false, .bool false, .bool false], .int .i64 z]) (by simp [results, Tryz.results39, go_sem, t0, t1, t2, t3, t4]) rfl ?_
  exact ⟨rfl, (by repeat' (first | with_reducible exact Below.refl _ _ | with_reducible assumption | with_reducible apply Below.drew | with_reducible apply below_drewN | with_reducible apply Below.alloc | with_reducible apply Below.setCell | (with_reducible refine Below.trans ?_ (Below.mono (by assumption) ?_)) | (simp; done) | (simp; omega) | omega | with_reducible apply le_size_alloc | with_reducible apply le_size_drewN | with_reducible apply le_size_drew | with_reducible apply le_size_setCell | refine Nat.le_trans ?_ (Below.size (by assumption))))⟩

set_option maxRecDepth 100000 in
set_option maxHeartbeats 8000000 in
theorem unpO (x : Nat) (w : World) (hal : AL w) (hx : x < 18446744073709551616) (h : x % 4 ≠ 3) (hr : restN x = 0) (hz : chkE (((x % 4 : Nat)) : Int) (((x / 256 % 256 : Nat)) : Int) (eA x) (eB x) (eC x) = 0) : Calls Tryz.prog 39 #[.int .u64 x] w fun e w' => e = .returned (.tuple #[entV ((x % 4 : Nat) : Int) ((x / 256 % 256 : Nat) : Int) (eA x) (eB x) (eC x), .int .i64 0]) ∧ Below w.heap.size w w' := by
  have H := Lib.hid h
  clear h
  have hbn := bits_andNot_rest x hx
  rw [hr] at hbn
  have HP := has_parts x
  obtain ⟨k, hk⟩ : ∃ k : Nat, x % 4 = k := ⟨_, rfl⟩
  obtain ⟨f, hf⟩ : ∃ f : Nat, x / 4 % 8 = f := ⟨_, rfl⟩
  obtain ⟨n, hn⟩ : ∃ n : Nat, x / 256 % 256 = n := ⟨_, rfl⟩
  rw [hk, hn] at hz ⊢
  have hk4 : k < 4 := by omega
  have hf8 : f < 8 := by omega
  have hn2 : n < 256 := by omega
  rw [hf] at HP
  generalize eA x = a at *
  generalize eB x = b at *
  generalize eC x = c at *
  obtain ⟨ha, hb, hc⟩ := HP
  have HK := Lib.hid hk; have HF := Lib.hid hf; have HN := Lib.hid hn; have HA := Lib.hid ha; have HBB := Lib.hid hb; have HC := Lib.hid hc
  clear hk hf hn ha hb hc hr
  have HZ := Lib.hid hz
  clear hz
  unfold entV
  have h0 := hal.1
  go_enter Tryz.func39, Tryz.ntmps39
  go_wp2_with fail
  refine (Kind_any x _ (hal.ext (by repeat' (first | with_reducible exact Below.refl _ _ | with_reducible assumption | with_reducible apply Below.drew | with_reducible apply below_drewN | with_reducible apply Below.alloc | with_reducible apply Below.setCell | (with_reducible refine Below.trans ?_ (Below.mono (by assumption) ?_)) | (simp; done) | (simp; omega) | omega | with_reducible apply le_size_alloc | with_reducible apply le_size_drewN | with_reducible apply le_size_drew | with_reducible apply le_size_setCell | refine Nat.le_trans ?_ (Below.size (by assumption))))) hx).mono ?_
  rw [if_neg H.out, HK.out]
  rintro e w1 ⟨rfl, hb1⟩
  have kR : Blk w1 w.heap.size 63 #[.int .i64 0, .int .i64 0, .bool false, .bool false, .bool false] := (Blk.new_ rfl rfl).below_ hb1 (by simp)
  have w1a : AL w1 := hal.ext (by repeat' (first | with_reducible exact Below.refl _ _ | with_reducible assumption | with_reducible apply Below.drew | with_reducible apply below_drewN | with_reducible apply Below.alloc | with_reducible apply Below.setCell | (with_reducible refine Below.trans ?_ (Below.mono (by assumption) ?_)) | (simp; done) | (simp; omega) | omega | with_reducible apply le_size_alloc | with_reducible apply le_size_drewN | with_reducible apply le_size_drew | with_reducible apply le_size_setCell | refine Nat.le_trans ?_ (Below.size (by assumption))))
  have hz1 : w.heap.size < w1.heap.size := kR.lt
  have lz := w1a.1
  have c0 : w1.cell? ⟨0, 0, none⟩ = some (.int .u64 0) := w1a.2 0 _ rfl
  have c1 : w1.cell? ⟨0, 1, none⟩ = some (.int .u64 3) := w1a.2 1 _ rfl
  have c2 : w1.cell? ⟨0, 2, none⟩ = some (.int .u64 2) := w1a.2 2 _ rfl
  have c3 : w1.cell? ⟨0, 3, none⟩ = some (.int .u64 7) := w1a.2 3 _ rfl
  have c4 : w1.cell? ⟨0, 4, none⟩ = some (.int .u64 8) := w1a.2 4 _ rfl
  have c5 : w1.cell? ⟨0, 5, none⟩ = some (.int .u64 255) := w1a.2 5 _ rfl
  go_wp2_with fail
  refine (word_any 3 7 255 _ _ _ (w1a.ext (by repeat' (first | with_reducible exact Below.refl _ _ | with_reducible assumption | with_reducible apply Below.drew | with_reducible apply below_drewN | with_reducible apply Below.alloc | with_reducible apply Below.setCell | (with_reducible refine Below.trans ?_ (Below.mono (by assumption) ?_)) | (simp; done) | (simp; omega) | omega | with_reducible apply le_size_alloc | with_reducible apply le_size_drewN | with_reducible apply le_size_drew | with_reducible apply le_size_setCell | refine Nat.le_trans ?_ (Below.size (by assumption))))) (by decide) (by decide) (by decide) (Sl.of_lit (Blk.new_ rfl rfl))).mono ?_
  rintro e w2 ⟨rfl, hb2⟩
  have kR2 := (kR.alloc_ _).below_ hb2 (by simp; omega)
  have w2a : AL w2 := w1a.ext (by repeat' (first | with_reducible exact Below.refl _ _ | with_reducible assumption | with_reducible apply Below.drew | with_reducible apply below_drewN | with_reducible apply Below.alloc | with_reducible apply Below.setCell | (with_reducible refine Below.trans ?_ (Below.mono (by assumption) ?_)) | (simp; done) | (simp; omega) | omega | with_reducible apply le_size_alloc | with_reducible apply le_size_drewN | with_reducible apply le_size_drew | with_reducible apply le_size_setCell | refine Nat.le_trans ?_ (Below.size (by assumption))))
  have hz2 : w.heap.size < w2.heap.size := kR2.lt
  clear c0 c1 c2 c3 c4 c5 lz
  go_wp2_with fail
  refine (part1 x _ (w2a.ext (by repeat' (first | with_reducible exact Below.refl _ _ | with_reducible assumption | with_reducible apply Below.drew | with_reducible apply below_drewN | with_reducible apply Below.alloc | with_reducible apply Below.setCell | (with_reducible refine Below.trans ?_ (Below.mono (by assumption) ?_)) | (simp; done) | (simp; omega) | omega | with_reducible apply le_size_alloc | with_reducible apply le_size_drewN | with_reducible apply le_size_drew | with_reducible apply le_size_setCell | refine Nat.le_trans ?_ (Below.size (by assumption))))) hx).mono ?_
  rw [HF.out]
  rintro e w3 ⟨rfl, hb3⟩
  have w3a : AL w3 := w2a.ext (by repeat' (first | with_reducible exact Below.refl _ _ | with_reducible assumption | with_reducible apply Below.drew | with_reducible apply below_drewN | with_reducible apply Below.alloc | with_reducible apply Below.setCell | (with_reducible refine Below.trans ?_ (Below.mono (by assumption) ?_)) | (simp; done) | (simp; omega) | omega | with_reducible apply le_size_alloc | with_reducible apply le_size_drewN | with_reducible apply le_size_drew | with_reducible apply le_size_setCell | refine Nat.le_trans ?_ (Below.size (by assumption))))
  have kR3 := kR2.below_ hb3 hz2
  have hz3 : w.heap.size < w3.heap.size := kR3.lt
  go_wp2_with fail
  refine (part2 x _ (w3a.ext (by repeat' (first | with_reducible exact Below.refl _ _ | with_reducible assumption | with_reducible apply Below.drew | with_reducible apply below_drewN | with_reducible apply Below.alloc | with_reducible apply Below.setCell | (with_reducible refine Below.trans ?_ (Below.mono (by assumption) ?_)) | (simp; done) | (simp; omega) | omega | with_reducible apply le_size_alloc | with_reducible apply le_size_drewN | with_reducible apply le_size_drew | with_reducible apply le_size_setCell | refine Nat.le_trans ?_ (Below.size (by assumption))))) hx).mono ?_
  rw [HN.out]
  rintro e w4 ⟨rfl, hb4⟩
  have w4a : AL w4 := w3a.ext (by repeat' (first | with_reducible exact Below.refl _ _ | with_reducible assumption | with_reducible apply Below.drew | with_reducible apply below_drewN | with_reducible apply Below.alloc | with_reducible apply Below.setCell | (with_reducible refine Below.trans ?_ (Below.mono (by assumption) ?_)) | (simp; done) | (simp; omega) | omega | with_reducible apply le_size_alloc | with_reducible apply le_size_drewN | with_reducible apply le_size_drew | with_reducible apply le_size_setCell | refine Nat.le_trans ?_ (Below.size (by assumption))))
  have kR4 := kR3.below_ hb4 hz3
  have hz4 : w.heap.size < w4.heap.size := kR4.lt
  go_wp2_with fail
  refine (fhas_any f 1 _ hf8 (by decide)).mono ?_
  rw [HA.out]
  rintro e w' ⟨rfl, rfl⟩
  go_wp2_with fail
  refine (fhas_any f 2 _ hf8 (by decide)).mono ?_
  rw [HBB.out]
  rintro e w' ⟨rfl, rfl⟩
  go_wp2_with fail
  refine (fhas_any f 4 _ hf8 (by decide)).mono ?_
  rw [HC.out]
  rintro e w' ⟨rfl, rfl⟩
  go_wp2_with fail
  refine (eCheck_any k n a b c _ (w4a.ext (by repeat' (first | with_reducible exact Below.refl _ _ | with_reducible assumption | with_reducible apply Below.drew | with_reducible apply below_drewN | with_reducible apply Below.alloc | with_reducible apply Below.setCell | (with_reducible refine Below.trans ?_ (Below.mono (by assumption) ?_)) | (simp; done) | (simp; omega) | omega | with_reducible apply le_size_alloc | with_reducible apply le_size_drewN | with_reducible apply le_size_drew | with_reducible apply le_size_setCell | refine Nat.le_trans ?_ (Below.size (by assumption)))))).mono ?_
  rw [HZ.out]
  rintro e w5 ⟨rfl, hb5⟩
  have kE : Blk w5 w4.heap.size 63 #[.int .i64 k, .int .i64 n, .bool a, .bool b, .bool c] := (Blk.new_ rfl rfl).below_ hb5 (by simp)
  have kR5 := (kR4.alloc_ _).below_ hb5 (by simp; omega)
  have hz5 : w.heap.size < w5.heap.size := kR5.lt
  have hzE : w4.heap.size < w5.heap.size := kE.lt
  have v0 := kE.cell_ 0
  have v1 := kE.cell_ 1
  have v2 := kE.cell_ 2
  have v3 := kE.cell_ 3
  have v4 := kE.cell_ 4
  simp at v0 v1 v2 v3 v4
  have r0 := kR5.cell_ 0; have rf0 := kR5.frozen_ 0
  have r1 := kR5.cell_ 1; have rf1 := kR5.frozen_ 1
  have r2 := kR5.cell_ 2; have rf2 := kR5.frozen_ 2
  have r3 := kR5.cell_ 3; have rf3 := kR5.frozen_ 3
  have r4 := kR5.cell_ 4; have rf4 := kR5.frozen_ 4
  simp at r0 r1 r2 r3 r4
  have k' : Blk (((((w5.setCell ⟨w.heap.size, 0, none⟩ (.int .i64 k)).setCell ⟨w.heap.size, 1, none⟩ (.int .i64 n)).setCell ⟨w.heap.size, 2, none⟩ (.bool a)).setCell ⟨w.heap.size, 3, none⟩ (.bool b)).setCell ⟨w.heap.size, 4, none⟩ (.bool c)) w.heap.size 63 _ := (((((kR5.set_ 0 (.int .i64 k)).set_ 1 (.int .i64 n)).set_ 2 (.bool a)).set_ 3 (.bool b)).set_ 4 (.bool c))
  have t0 := k'.cell_ 0
  have t1 := k'.cell_ 1
  have t2 := k'.cell_ 2
  have t3 := k'.cell_ 3
  have t4 := k'.cell_ 4
  simp at t0 t1 t2 t3 t4
  clear k'
  go_wp2
  refine bodyPost_ret (v := .tuple #[.agg #[.int .i64 k, .int .i64 n, .bool a, .bool b, .bool c], .int .i64 0]) (by simp [results, Tryz.results39, go_sem, t0, t1, t2, t3, t4]) rfl ?_
  exact ⟨rfl, (by repeat' (first | with_reducible exact Below.refl _ _ | with_reducible assumption | with_reducible apply Below.drew | with_reducible apply below_drewN | with_reducible apply Below.alloc | with_reducible apply Below.setCell | (with_reducible refine Below.trans ?_ (Below.mono (by assumption) ?_)) | (simp; done) | (simp; omega) | omega | with_reducible apply le_size_alloc | with_reducible apply le_size_drewN | with_reducible apply le_size_drew | with_reducible apply le_size_setCell | refine Nat.le_trans ?_ (Below.size (by assumption))))⟩

theorem Unpack_any (x : Nat) (w : World) (hal : AL w) (hx : x < 18446744073709551616) : Calls Tryz.prog 39 #[.int .u64 x] w fun e w' => e = .returned (unpV x) ∧ Below w.heap.size w w' := by
  unfold unpV
  by_cases h : x % 4 = 3
  · have e : unpE x = 16 := if_pos h
    rw [e, if_neg (by decide)]
    exact unp16 x w hal hx h
  by_cases hr : restN x = 0
  rotate_left
  · have hr2 : x / 32 % 8 ≠ 0 ∨ x / 65536 ≠ 0 := by have := restN_zero x hx; omega
    have e : unpE x = 3 := by unfold unpE; rw [if_neg h, if_pos hr2]
    rw [e, if_neg (by decide)]
    exact unp3 x w hal hx h hr
  have hr2 : ¬ (x / 32 % 8 ≠ 0 ∨ x / 65536 ≠ 0) := by have := restN_zero x hx; omega
  have e : unpE x = chkE (eK x) (eN x) (eA x) (eB x) (eC x) := by unfold unpE; rw [if_neg h, if_neg hr2]
  by_cases hz : unpE x = 0
  · rw [if_pos hz, hz]
    exact unpO x w hal hx h hr (e.symm.trans hz)
  · rw [if_neg hz]
    exact unpZ x _ w hal hx h hr e.symm hz

set_option maxRecDepth 100000 in
set_option maxHeartbeats 8000000 in
theorem rUnp16 (x : Nat) (w : World) (hx : x < 18446744073709551616) (h : x % 4 = 3) : Calls Tryz.prog 49 #[.int .u64 x] w fun e w' => e = .returned (.tuple #[entV 0 0 false false false, .int .i64 16]) ∧ Below w.heap.size w w' := by
  have f0 : ((x : Int) % 4 == 3) = true := by simp; omega
  clear h
  go_enter Tryz.func49, Tryz.ntmps49
  go_wp2
  refine bodyPost_ret (v := .tuple #[.agg #[.int .i64 0, .int .i64 0, .bool false, .bool false, .bool false], .int .i64 16]) (by simp [results, Tryz.results49, go_sem]) rfl ?_
  exact ⟨rfl, (by repeat' (first | with_reducible exact Below.refl _ _ | with_reducible assumption | with_reducible apply Below.drew | with_reducible apply below_drewN | with_reducible apply Below.alloc | with_reducible apply Below.setCell | (with_reducible refine Below.trans ?_ (Below.mono (by assumption) ?_)) | (simp; done) | (simp; omega) | omega | with_reducible apply le_size_alloc | with_reducible apply le_size_drewN | with_reducible apply le_size_drew | with_reducible apply le_size_setCell | refine Nat.le_trans ?_ (Below.size (by assumption))))⟩

set_option maxRecDepth 100000 in
set_option maxHeartbeats 8000000 in
theorem rUnp3a (x : Nat) (w : World) (hx : x < 18446744073709551616) (h : x % 4 ≠ 3) (h2 : x / 32 % 8 ≠ 0) : Calls Tryz.prog 49 #[.int .u64 x] w fun e w' => e = .returned (.tuple #[entV 0 0 false false false, .int .i64 3]) ∧ Below w.heap.size w w' := by
  have f0 : ((x : Int) % 4 == 3) = false := by simp; omega
  have f1 : ((x : Int) / 32 % 8 != 0) = true := by simp; omega
  clear h h2
  go_enter Tryz.func49, Tryz.ntmps49
  go_wp2
  refine bodyPost_ret (v := .tuple #[.agg #[.int .i64 0, .int .i64 0, .bool false, .bool false, .bool false], .int .i64 3]) (by simp [results, Tryz.results49, go_sem]) rfl ?_
  exact ⟨rfl, (by repeat' (first | with_reducible exact Below.refl _ _ | with_reducible assumption | with_reducible apply Below.drew | with_reducible apply below_drewN | with_reducible apply Below.alloc | with_reducible apply Below.setCell | (with_reducible refine Below.trans ?_ (Below.mono (by assumption) ?_)) | (simp; done) | (simp; omega) | omega | with_reducible apply le_size_alloc | with_reducible apply le_size_drewN | with_reducible apply le_size_drew | with_reducible apply le_size_setCell | refine Nat.le_trans ?_ (Below.size (by assumption))))⟩

set_option maxRecDepth 100000 in
set_option maxHeartbeats 8000000 in
theorem rUnp3b (x : Nat) (w : World) (hx : x < 18446744073709551616) (h : x % 4 ≠ 3) (h2 : x / 32 % 8 = 0) (h3 : x / 65536 ≠ 0) : Calls Tryz.prog 49 #[.int .u64 x] w fun e w' => e = .returned (.tuple #[entV 0 0 false false false, .int .i64 3]) ∧ Below w.heap.size w w' := by
  have f0 : ((x : Int) % 4 == 3) = false := by simp; omega
  have f1 : (x : Int) / 32 % 8 = 0 := by omega
  have f2 : ((x : Int) / 65536 != 0) = true := by simp; omega
  clear h h2 h3
  go_enter Tryz.func49, Tryz.ntmps49
  go_wp2
  refine bodyPost_ret (v := .tuple #[.agg #[.int .i64 0, .int .i64 0, .bool false, .bool false, .bool false], .int .i64 3]) (by simp [results, Tryz.results49, go_sem]) rfl ?_
  exact ⟨rfl, (by repeat' (first | with_reducible exact Below.refl _ _ | with_reducible assumption | with_reducible apply Below.drew | with_reducible apply below_drewN | with_reducible apply Below.alloc | with_reducible apply Below.setCell | (with_reducible refine Below.trans ?_ (Below.mono (by assumption) ?_)) | (simp; done) | (simp; omega) | omega | with_reducible apply le_size_alloc | with_reducible apply le_size_drewN | with_reducible apply le_size_drew | with_reducible apply le_size_setCell | refine Nat.le_trans ?_ (Below.size (by assumption))))⟩

set_option maxRecDepth 100000 in
set_option maxHeartbeats 8000000 in
theorem rUnpZ (x : Nat) (z : Int) (w : World) (hx : x < 18446744073709551616) (h : x % 4 ≠ 3) (h2 : x / 32 % 8 = 0) (h3 : x / 65536 = 0) (hz : chkE (eK x) (eN x) (eA x) (eB x) (eC x) = z) (hz0 : z ≠ 0) : Calls Tryz.prog 49 #[.int .u64 x] w fun e w' => e = .returned (.tuple #[entV 0 0 false false false, .int .i64 z]) ∧ Below w.heap.size w w' := by
  have hzb : (z != 0) = true := by simpa using hz0
  clear hz0
  have f0 : ((x : Int) % 4 == 3) = false := by simp; omega
  have f1 : (x : Int) / 32 % 8 = 0 := by omega
  have f2 : (x : Int) / 65536 = 0 := by omega
  have HK : Hid ((x : Int) % 4 = eK x) := by show _ = _; unfold eK; omega
  have HN : Hid ((x : Int) / 256 = eN x) := by show _ = _; unfold eN; omega
  have HA : Hid (((x : Int) / 4 % 2 == 1) = eA x) := by show _ = _; unfold eA; rw [Bool.eq_iff_iff]; simp; omega
  have HBB : Hid (((x : Int) / 8 % 2 == 1) = eB x) := by show _ = _; unfold eB; rw [Bool.eq_iff_iff]; simp; omega
  have HC : Hid (((x : Int) / 16 % 2 == 1) = eC x) := by show _ = _; unfold eC; rw [Bool.eq_iff_iff]; simp; omega
  clear h h2 h3
  generalize eK x = k at *
  generalize eN x = n at *
  generalize eA x = a at *
  generalize eB x = b at *
  generalize eC x = c at *
  have HZ := Lib.hid hz
  clear hz
  unfold entV
  go_enter Tryz.func49, Tryz.ntmps49
  go_wp2_with fail
  rw [HK.out, HN.out, HA.out, HBB.out, HC.out]
  refine (rCheck02_any k n a b c _).mono ?_
  rw [HZ.out]
  rintro e w1 ⟨rfl, hb1⟩
  have kR : Blk w1 w.heap.size 63 #[.int .i64 0, .int .i64 0, .bool false, .bool false, .bool false] := ((Blk.new_ rfl rfl).alloc_ _).below_ hb1 (by simp; omega)
  have kE : Blk w1 (w.heap.size + 1) 63 #[.int .i64 k, .int .i64 n, .bool a, .bool b, .bool c] := (Blk.new_ (by simp) rfl).below_ hb1 (by simp)
  have hz1 : w.heap.size < w1.heap.size := kR.lt
  have hz2 : w.heap.size + 1 < w1.heap.size := kE.lt
  have r0 := kR.cell_ 0; have rf0 := kR.frozen_ 0
  have r1 := kR.cell_ 1; have rf1 := kR.frozen_ 1
  have r2 := kR.cell_ 2; have rf2 := kR.frozen_ 2
  have r3 := kR.cell_ 3; have rf3 := kR.frozen_ 3
  have r4 := kR.cell_ 4; have rf4 := kR.frozen_ 4
  simp at r0 r1 r2 r3 r4
  have k' : Blk (((((w1.setCell ⟨w.heap.size, 0, none⟩ (.int .i64 0)).setCell ⟨w.heap.size, 1, none⟩ (.int .i64 0)).setCell ⟨w.heap.size, 2, none⟩ (.bool false)).setCell ⟨w.heap.size, 3, none⟩ (.bool false)).setCell ⟨w.heap.size, 4, none⟩ (.bool false)) w.heap.size 63 _ := (((((kR.set_ 0 (.int .i64 0)).set_ 1 (.int .i64 0)).set_ 2 (.bool false)).set_ 3 (.bool false)).set_ 4 (.bool false))
  have t0 := k'.cell_ 0
  have t1 := k'.cell_ 1
  have t2 := k'.cell_ 2
  have t3 := k'.cell_ 3
  have t4 := k'.cell_ 4
  simp at t0 t1 t2 t3 t4
  clear k'
  go_wp2
  refine bodyPost_ret (v := .tuple #[.agg #[.int .i64 0, .int .i64 0, .bool false, .bool false, .bool false], .int .i64 z]) (by simp [results, Tryz.results49, go_sem, t0, t1, t2, t3, t4]) rfl ?_
  exact ⟨rfl, (by repeat' (first | with_reducible exact Below.refl _ _ | with_reducible assumption | with_reducible apply Below.drew | with_reducible apply below_drewN | with_reducible apply Below.alloc | with_reducible apply Below.setCell | (with_reducible refine Below.trans ?_ (Below.mono (by assumption) ?_)) | (simp; done) | (simp; omega) | omega | with_reducible apply le_size_alloc | with_reducible apply le_size_drewN | with_reducible apply le_size_drew | with_reducible apply le_size_setCell | refine Nat.le_trans ?_ (Below.size (by assumption))))⟩

set_option maxRecDepth 100000 in
set_option maxHeartbeats 8000000 in
theorem rUnpO (x : Nat) (w : World) (hx : x < 18446744073709551616) (h : x % 4 ≠ 3) (h2 : x / 32 % 8 = 0) (h3 : x / 65536 = 0) (hz : chkE (eK x) (eN x) (eA x) (eB x) (eC x) = 0) : Calls Tryz.prog 49 #[.int .u64 x] w fun e w' => e = .returned (.tuple #[entV (eK x) (eN x) (eA x) (eB x) (eC x), .int .i64 0]) ∧ Below w.heap.size w w' := by
  have f0 : ((x : Int) % 4 == 3) = false := by simp; omega
  have f1 : (x : Int) / 32 % 8 = 0 := by omega
  have f2 : (x : Int) / 65536 = 0 := by omega
  have HK : Hid ((x : Int) % 4 = eK x) := by show _ = _; unfold eK; omega
  have HN : Hid ((x : Int) / 256 = eN x) := by show _ = _; unfold eN; omega
  have HA : Hid (((x : Int) / 4 % 2 == 1) = eA x) := by show _ = _; unfold eA; rw [Bool.eq_iff_iff]; simp; omega
  have HBB : Hid (((x : Int) / 8 % 2 == 1) = eB x) := by show _ = _; unfold eB; rw [Bool.eq_iff_iff]; simp; omega
  have HC : Hid (((x : Int) / 16 % 2 == 1) = eC x) := by show _ = _; unfold eC; rw [Bool.eq_iff_iff]; simp; omega
  clear h h2 h3
  generalize eK x = k at *
  generalize eN x = n at *
  generalize eA x = a at *
  generalize eB x = b at *
  generalize eC x = c at *
  have HZ := Lib.hid hz
  clear hz
  unfold entV
  go_enter Tryz.func49, Tryz.ntmps49
  go_wp2_with fail
  rw [HK.out, HN.out, HA.out, HBB.out, HC.out]
  refine (rCheck02_any k n a b c _).mono ?_
  rw [HZ.out]
  rintro e w1 ⟨rfl, hb1⟩
  have kR : Blk w1 w.heap.size 63 #[.int .i64 0, .int .i64 0, .bool false, .bool false, .bool false] := ((Blk.new_ rfl rfl).alloc_ _).below_ hb1 (by simp; omega)
  have kE : Blk w1 (w.heap.size + 1) 63 #[.int .i64 k, .int .i64 n, .bool a, .bool b, .bool c] := (Blk.new_ (by simp) rfl).below_ hb1 (by simp)
  have hz1 : w.heap.size < w1.heap.size := kR.lt
  have hz2 : w.heap.size + 1 < w1.heap.size := kE.lt
  have v0 := kE.cell_ 0
  have v1 := kE.cell_ 1
  have v2 := kE.cell_ 2
  have v3 := kE.cell_ 3
  have v4 := kE.cell_ 4
  simp at v0 v1 v2 v3 v4
  have r0 := kR.cell_ 0; have rf0 := kR.frozen_ 0
  have r1 := kR.cell_ 1; have rf1 := kR.frozen_ 1
  have r2 := kR.cell_ 2; have rf2 := kR.frozen_ 2
  have r3 := kR.cell_ 3; have rf3 := kR.frozen_ 3
  have r4 := kR.cell_ 4; have rf4 := kR.frozen_ 4
  simp at r0 r1 r2 r3 r4
  have k' : Blk (((((w1.setCell ⟨w.heap.size, 0, none⟩ (.int .i64 k)).setCell ⟨w.heap.size, 1, none⟩ (.int .i64 n)).setCell ⟨w.heap.size, 2, none⟩ (.bool a)).setCell ⟨w.heap.size, 3, none⟩ (.bool b)).setCell ⟨w.heap.size, 4, none⟩ (.bool c)) w.heap.size 63 _ := (((((kR.set_ 0 (.int .i64 k)).set_ 1 (.int .i64 n)).set_ 2 (.bool a)).set_ 3 (.bool b)).set_ 4 (.bool c))
  have t0 := k'.cell_ 0
  have t1 := k'.cell_ 1
  have t2 := k'.cell_ 2
  have t3 := k'.cell_ 3
  have t4 := k'.cell_ 4
  simp at t0 t1 t2 t3 t4
  clear k'
  go_wp2
  refine bodyPost_ret (v := .tuple #[.agg #[.int .i64 k, .int .i64 n, .bool a, .bool b, .bool c], .int .i64 0]) (by simp [results, Tryz.results49, go_sem, t0, t1, t2, t3, t4]) rfl ?_
  exact ⟨rfl, (by repeat' (first | with_reducible exact Below.refl _ _ | with_reducible assumption | with_reducible apply Below.drew | with_reducible apply below_drewN | with_reducible apply Below.alloc | with_reducible apply Below.setCell | (with_reducible refine Below.trans ?_ (Below.mono (by assumption) ?_)) | (simp; done) | (simp; omega) | omega | with_reducible apply le_size_alloc | with_reducible apply le_size_drewN | with_reducible apply le_size_drew | with_reducible apply le_size_setCell | refine Nat.le_trans ?_ (Below.size (by assumption))))⟩

theorem rUnpack_any (x : Nat) (w : World) (hx : x < 18446744073709551616) : Calls Tryz.prog 49 #[.int .u64 x] w fun e w' => e = .returned (unpV x) ∧ Below w.heap.size w w' := by
  unfold unpV
  by_cases h : x % 4 = 3
  · have e : unpE x = 16 := if_pos h
    rw [e, if_neg (by decide)]
    exact rUnp16 x w hx h
  by_cases hr : x / 32 % 8 ≠ 0 ∨ x / 65536 ≠ 0
  · have e : unpE x = 3 := by unfold unpE; rw [if_neg h, if_pos hr]
    rw [e, if_neg (by decide)]
    by_cases h2 : x / 32 % 8 = 0
    · exact rUnp3b x w hx h h2 (by omega)
    · exact rUnp3a x w hx h h2
  have e : unpE x = chkE (eK x) (eN x) (eA x) (eB x) (eC x) := by unfold unpE; rw [if_neg h, if_neg hr]
  by_cases hz : unpE x = 0
  · rw [if_pos hz, hz]
    exact rUnpO x w hx h (by omega) (by omega) (e.symm.trans hz)
  · rw [if_neg hz]
    exact rUnpZ x _ w hx h (by omega) (by omega) e.symm hz
end Go.Proofs.YtmbpjafiinfkkaaGreatDoor
