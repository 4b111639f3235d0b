/- Package entry: Check; the reference's. Written by gen_oe2.py. -/
import Derived.Test.YtmbpjafiinfkkaaGreatDoorOE1
namespace Go.Proofs.YtmbpjafiinfkkaaGreatDoor
set_option linter.unusedSimpArgs false
set_option linter.unusedVariables false
open Go.RowKit Go.Maps

/-- The error of an entry. -/
def chkE (k n : Int) (a b c : Bool) : Int :=
  if ¬ (k = 0 ∨ k = 1 ∨ k = 2) then 16 else if n < 0 ∨ 255 < n ∨ (k = 0 ∧ n ≠ 0) then 2 else if k = 1 then (if a = b then 3 else 0) else if a || b || c then 3 else 0
theorem flgN_zero {a b c : Bool} (h : (a || b || c) = false) : flgN a b c = 0 := by cases a <;> cases b <;> cases c <;> simp_all [flgN]
theorem flgN_pos {a b c : Bool} (h : (a || b || c) = true) : 0 < flgN a b c := by cases a <;> cases b <;> cases c <;> simp_all [flgN]

set_option maxRecDepth 100000 in
set_option maxHeartbeats 2000000 in
theorem eCk16 (k n : Int) (a b c : Bool) (w : World) (hal : AL w) (h : ¬ (k = 0 ∨ k = 1 ∨ k = 2)) : Calls Tryz.prog 65 #[entV k n a b c] w fun e w' => e = .returned (.int .i64 16) ∧ Below w.heap.size w w' := by
  have h0 := hal.1
  have c5 : w.cell? ⟨0, 5, none⟩ = some (.int .u64 255) := hal.2 5 _ rfl
  obtain ⟨k0, k1, k2⟩ : (k != 0) = true ∧ (k != 1) = true ∧ (k != 2) = true := by simp; omega
  obtain ⟨k3, k4, k5⟩ : (k == 0) = false ∧ (k == 1) = false ∧ (k == 2) = false := by simp; omega
  clear h
  unfold entV
  go_enter Tryz.func65, Tryz.ntmps65
  go_wp2
  refine bodyPost_ret (v := .int .i64 16) (by simp [results, Tryz.results65, go_sem]) rfl ?_
  exact ⟨rfl, (by repeat' (first | with_reducible exact Below.refl _ _ | with_reducible assumption | with_reducible apply Below.drew | with_reducible apply below_drewN | with_reducible apply Below.alloc | with_reducible apply Below.setCell | (with_reducible refine Below.trans ?_ (Below.mono (by assumption) ?_)) | (simp; done) | (simp; omega) | omega | with_reducible apply le_size_alloc | with_reducible apply le_size_drewN | with_reducible apply le_size_drew | with_reducible apply le_size_setCell | refine Nat.le_trans ?_ (Below.size (by assumption))))⟩

set_option maxRecDepth 100000 in
set_option maxHeartbeats 2000000 in
theorem eCk20n (n : Int) (a b c : Bool) (w : World) (hal : AL w) (h : n < 0) : Calls Tryz.prog 65 #[entV 0 n a b c] w fun e w' => e = .returned (.int .i64 2) ∧ Below w.heap.size w w' := by
  have h0 := hal.1
  have c5 : w.cell? ⟨0, 5, none⟩ = some (.int .u64 255) := hal.2 5 _ rfl
  unfold entV
  go_enter Tryz.func65, Tryz.ntmps65
  go_wp2
  refine bodyPost_ret (v := .int .i64 2) (by simp [results, Tryz.results65, go_sem]) rfl ?_
  exact ⟨rfl, (by repeat' (first | with_reducible exact Below.refl _ _ | with_reducible assumption | with_reducible apply Below.drew | with_reducible apply below_drewN | with_reducible apply Below.alloc | with_reducible apply Below.setCell | (with_reducible refine Below.trans ?_ (Below.mono (by assumption) ?_)) | (simp; done) | (simp; omega) | omega | with_reducible apply le_size_alloc | with_reducible apply le_size_drewN | with_reducible apply le_size_drew | with_reducible apply le_size_setCell | refine Nat.le_trans ?_ (Below.size (by assumption))))⟩

set_option maxRecDepth 100000 in
set_option maxHeartbeats 2000000 in
theorem eCk20p (n : Int) (a b c : Bool) (w : World) (hal : AL w) (h : 255 < n) : Calls Tryz.prog 65 #[entV 0 n a b c] w fun e w' => e = .returned (.int .i64 2) ∧ Below w.heap.size w w' := by
  have h0 := hal.1
  have c5 : w.cell? ⟨0, 5, none⟩ = some (.int .u64 255) := hal.2 5 _ rfl
  have h1 : 0 ≤ n := by omega
  unfold entV
  go_enter Tryz.func65, Tryz.ntmps65
  go_wp2
  refine bodyPost_ret (v := .int .i64 2) (by simp [results, Tryz.results65, go_sem]) rfl ?_
  exact ⟨rfl, (by repeat' (first | with_reducible exact Below.refl _ _ | with_reducible assumption | with_reducible apply Below.drew | with_reducible apply below_drewN | with_reducible apply Below.alloc | with_reducible apply Below.setCell | (with_reducible refine Below.trans ?_ (Below.mono (by assumption) ?_)) | (simp; done) | (simp; omega) | omega | with_reducible apply le_size_alloc | with_reducible apply le_size_drewN | with_reducible apply le_size_drew | with_reducible apply le_size_setCell | refine Nat.le_trans ?_ (Below.size (by assumption))))⟩

set_option maxRecDepth 100000 in
set_option maxHeartbeats 2000000 in
theorem eCk21n (n : Int) (a b c : Bool) (w : World) (hal : AL w) (h : n < 0) : Calls Tryz.prog 65 #[entV 1 n a b c] w fun e w' => e = .returned (.int .i64 2) ∧ Below w.heap.size w w' := by
  have h0 := hal.1
  have c5 : w.cell? ⟨0, 5, none⟩ = some (.int .u64 255) := hal.2 5 _ rfl
  unfold entV
  go_enter Tryz.func65, Tryz.ntmps65
  go_wp2
  refine bodyPost_ret (v := .int .i64 2) (by simp [results, Tryz.results65, go_sem]) rfl ?_
  exact ⟨rfl, (by repeat' (first | with_reducible exact Below.refl _ _ | with_reducible assumption | with_reducible apply Below.drew | with_reducible apply below_drewN | with_reducible apply Below.alloc | with_reducible apply Below.setCell | (with_reducible refine Below.trans ?_ (Below.mono (by assumption) ?_)) | (simp; done) | (simp; omega) | omega | with_reducible apply le_size_alloc | with_reducible apply le_size_drewN | with_reducible apply le_size_drew | with_reducible apply le_size_setCell | refine Nat.le_trans ?_ (Below.size (by assumption))))⟩

set_option maxRecDepth 100000 in
set_option maxHeartbeats 2000000 in
theorem eCk21p (n : Int) (a b c : Bool) (w : World) (hal : AL w) (h : 255 < n) : Calls Tryz.prog 65 #[entV 1 n a b c] w fun e w' => e = .returned (.int .i64 2) ∧ Below w.heap.size w w' := by
  have h0 := hal.1
  have c5 : w.cell? ⟨0, 5, none⟩ = some (.int .u64 255) := hal.2 5 _ rfl
  have h1 : 0 ≤ n := by omega
  unfold entV
  go_enter Tryz.func65, Tryz.ntmps65
  go_wp2
  refine bodyPost_ret (v := .int .i64 2) (by simp [results, Tryz.results65, go_sem]) rfl ?_
  exact ⟨rfl, (by repeat' (first | with_reducible exact Below.refl _ _ | with_reducible assumption | with_reducible apply Below.drew | with_reducible apply below_drewN | with_reducible apply Below.alloc | with_reducible apply Below.setCell | (with_reducible refine Below.trans ?_ (Below.mono (by assumption) ?_)) | (simp; done) | (simp; omega) | omega | with_reducible apply le_size_alloc | with_reducible apply le_size_drewN | with_reducible apply le_size_drew | with_reducible apply le_size_setCell | refine Nat.le_trans ?_ (Below.size (by assumption))))⟩

set_option maxRecDepth 100000 in
set_option maxHeartbeats 2000000 in
theorem eCk22n (n : Int) (a b c : Bool) (w : World) (hal : AL w) (h : n < 0) : Calls Tryz.prog 65 #[entV 2 n a b c] w fun e w' => e = .returned (.int .i64 2) ∧ Below w.heap.size w w' := by
  have h0 := hal.1
  have c5 : w.cell? ⟨0, 5, none⟩ = some (.int .u64 255) := hal.2 5 _ rfl
  unfold entV
  go_enter Tryz.func65, Tryz.ntmps65
  go_wp2
  refine bodyPost_ret (v := .int .i64 2) (by simp [results, Tryz.results65, go_sem]) rfl ?_
  exact ⟨rfl, (by repeat' (first | with_reducible exact Below.refl _ _ | with_reducible assumption | with_reducible apply Below.drew | with_reducible apply below_drewN | with_reducible apply Below.alloc | with_reducible apply Below.setCell | (with_reducible refine Below.trans ?_ (Below.mono (by assumption) ?_)) | (simp; done) | (simp; omega) | omega | with_reducible apply le_size_alloc | with_reducible apply le_size_drewN | with_reducible apply le_size_drew | with_reducible apply le_size_setCell | refine Nat.le_trans ?_ (Below.size (by assumption))))⟩

set_option maxRecDepth 100000 in
set_option maxHeartbeats 2000000 in
theorem eCk22p (n : Int) (a b c : Bool) (w : World) (hal : AL w) (h : 255 < n) : Calls Tryz.prog 65 #[entV 2 n a b c] w fun e w' => e = .returned (.int .i64 2) ∧ Below w.heap.size w w' := by
  have h0 := hal.1
  have c5 : w.cell? ⟨0, 5, none⟩ = some (.int .u64 255) := hal.2 5 _ rfl
  have h1 : 0 ≤ n := by omega
  unfold entV
  go_enter Tryz.func65, Tryz.ntmps65
  go_wp2
  refine bodyPost_ret (v := .int .i64 2) (by simp [results, Tryz.results65, go_sem]) rfl ?_
  exact ⟨rfl, (by repeat' (first | with_reducible exact Below.refl _ _ | with_reducible assumption | with_reducible apply Below.drew | with_reducible apply below_drewN | with_reducible apply Below.alloc | with_reducible apply Below.setCell | (with_reducible refine Below.trans ?_ (Below.mono (by assumption) ?_)) | (simp; done) | (simp; omega) | omega | with_reducible apply le_size_alloc | with_reducible apply le_size_drewN | with_reducible apply le_size_drew | with_reducible apply le_size_setCell | refine Nat.le_trans ?_ (Below.size (by assumption))))⟩

set_option maxRecDepth 100000 in
set_option maxHeartbeats 2000000 in
theorem eCk20z (n : Int) (a b c : Bool) (w : World) (hal : AL w) (h1 : 0 ≤ n) (h2 : n ≤ 255) (h3 : n ≠ 0) : Calls Tryz.prog 65 #[entV 0 n a b c] w fun e w' => e = .returned (.int .i64 2) ∧ Below w.heap.size w w' := by
  have h0 := hal.1
  have c5 : w.cell? ⟨0, 5, none⟩ = some (.int .u64 255) := hal.2 5 _ rfl
  have h4 : (n != 0) = true := by simpa using h3
  have h5 : 1 ≤ n := by omega
  clear h3
  unfold entV
  go_enter Tryz.func65, Tryz.ntmps65
  go_wp2
  refine bodyPost_ret (v := .int .i64 2) (by simp [results, Tryz.results65, go_sem]) rfl ?_
  exact ⟨rfl, (by repeat' (first | with_reducible exact Below.refl _ _ | with_reducible assumption | with_reducible apply Below.drew | with_reducible apply below_drewN | with_reducible apply Below.alloc | with_reducible apply Below.setCell | (with_reducible refine Below.trans ?_ (Below.mono (by assumption) ?_)) | (simp; done) | (simp; omega) | omega | with_reducible apply le_size_alloc | with_reducible apply le_size_drewN | with_reducible apply le_size_drew | with_reducible apply le_size_setCell | refine Nat.le_trans ?_ (Below.size (by assumption))))⟩

set_option maxRecDepth 100000 in
set_option maxHeartbeats 2000000 in
theorem eCk1ff (n : Int) (c : Bool) (w : World) (hal : AL w) (h1 : 0 ≤ n) (h2 : n ≤ 255) : Calls Tryz.prog 65 #[entV 1 n false false c] w fun e w' => e = .returned (.int .i64 3) ∧ Below w.heap.size w w' := by
  have h0 := hal.1
  have c5 : w.cell? ⟨0, 5, none⟩ = some (.int .u64 255) := hal.2 5 _ rfl
  unfold entV
  go_enter Tryz.func65, Tryz.ntmps65
  go_wp2
  refine bodyPost_ret (v := .int .i64 3) (by simp [results, Tryz.results65, go_sem]) rfl ?_
  exact ⟨rfl, (by repeat' (first | with_reducible exact Below.refl _ _ | with_reducible assumption | with_reducible apply Below.drew | with_reducible apply below_drewN | with_reducible apply Below.alloc | with_reducible apply Below.setCell | (with_reducible refine Below.trans ?_ (Below.mono (by assumption) ?_)) | (simp; done) | (simp; omega) | omega | with_reducible apply le_size_alloc | with_reducible apply le_size_drewN | with_reducible apply le_size_drew | with_reducible apply le_size_setCell | refine Nat.le_trans ?_ (Below.size (by assumption))))⟩

set_option maxRecDepth 100000 in
set_option maxHeartbeats 2000000 in
theorem eCk1ft (n : Int) (c : Bool) (w : World) (hal : AL w) (h1 : 0 ≤ n) (h2 : n ≤ 255) : Calls Tryz.prog 65 #[entV 1 n false true c] w fun e w' => e = .returned (.int .i64 0) ∧ Below w.heap.size w w' := by
  have h0 := hal.1
  have c5 : w.cell? ⟨0, 5, none⟩ = some (.int .u64 255) := hal.2 5 _ rfl
  unfold entV
  go_enter Tryz.func65, Tryz.ntmps65
  go_wp2
  refine bodyPost_ret (v := .int .i64 0) (by simp [results, Tryz.results65, go_sem]) rfl ?_
  exact ⟨rfl, (by repeat' (first | with_reducible exact Below.refl _ _ | with_reducible assumption | with_reducible apply Below.drew | with_reducible apply below_drewN | with_reducible apply Below.alloc | with_reducible apply Below.setCell | (with_reducible refine Below.trans ?_ (Below.mono (by assumption) ?_)) | (simp; done) | (simp; omega) | omega | with_reducible apply le_size_alloc | with_reducible apply le_size_drewN | with_reducible apply le_size_drew | with_reducible apply le_size_setCell | refine Nat.le_trans ?_ (Below.size (by assumption))))⟩

set_option maxRecDepth 100000 in
set_option maxHeartbeats 2000000 in
theorem eCk1tf (n : Int) (c : Bool) (w : World) (hal : AL w) (h1 : 0 ≤ n) (h2 : n ≤ 255) : Calls Tryz.prog 65 #[entV 1 n true false c] w fun e w' => e = .returned (.int .i64 0) ∧ Below w.heap.size w w' := by
  have h0 := hal.1
  have c5 : w.cell? ⟨0, 5, none⟩ = some (.int .u64 255) := hal.2 5 _ rfl
  unfold entV
  go_enter Tryz.func65, Tryz.ntmps65
  go_wp2
  refine bodyPost_ret (v := .int .i64 0) (by simp [results, Tryz.results65, go_sem]) rfl ?_
  exact ⟨rfl, (by repeat' (first | with_reducible exact Below.refl _ _ | with_reducible assumption | with_reducible apply Below.drew | with_reducible apply below_drewN | with_reducible apply Below.alloc | with_reducible apply Below.setCell | (with_reducible refine Below.trans ?_ (Below.mono (by assumption) ?_)) | (simp; done) | (simp; omega) | omega | with_reducible apply le_size_alloc | with_reducible apply le_size_drewN | with_reducible apply le_size_drew | with_reducible apply le_size_setCell | refine Nat.le_trans ?_ (Below.size (by assumption))))⟩

set_option maxRecDepth 100000 in
set_option maxHeartbeats 2000000 in
theorem eCk1tt (n : Int) (c : Bool) (w : World) (hal : AL w) (h1 : 0 ≤ n) (h2 : n ≤ 255) : Calls Tryz.prog 65 #[entV 1 n true true c] w fun e w' => e = .returned (.int .i64 3) ∧ Below w.heap.size w w' := by
  have h0 := hal.1
  have c5 : w.cell? ⟨0, 5, none⟩ = some (.int .u64 255) := hal.2 5 _ rfl
  unfold entV
  go_enter Tryz.func65, Tryz.ntmps65
  go_wp2
  refine bodyPost_ret (v := .int .i64 3) (by simp [results, Tryz.results65, go_sem]) rfl ?_
  exact ⟨rfl, (by repeat' (first | with_reducible exact Below.refl _ _ | with_reducible assumption | with_reducible apply Below.drew | with_reducible apply below_drewN | with_reducible apply Below.alloc | with_reducible apply Below.setCell | (with_reducible refine Below.trans ?_ (Below.mono (by assumption) ?_)) | (simp; done) | (simp; omega) | omega | with_reducible apply le_size_alloc | with_reducible apply le_size_drewN | with_reducible apply le_size_drew | with_reducible apply le_size_setCell | refine Nat.le_trans ?_ (Below.size (by assumption))))⟩

set_option maxRecDepth 100000 in
set_option maxHeartbeats 2000000 in
theorem eCk0f (a b c : Bool) (w : World) (hal : AL w)  (hf : (a || b || c) = true) : Calls Tryz.prog 65 #[entV 0 0 a b c] w fun e w' => e = .returned (.int .i64 3) ∧ Below w.heap.size w w' := by
  have h0 := hal.1
  have c5 : w.cell? ⟨0, 5, none⟩ = some (.int .u64 255) := hal.2 5 _ rfl
  obtain ⟨F, hF⟩ : ∃ F, flgN a b c = F := ⟨_, rfl⟩
  have hp := flgN_pos hf
  rw [hF] at hp
  have HF := Lib.hid hF
  clear hF hf
  unfold entV
  go_enter Tryz.func65, Tryz.ntmps65
  go_wp2_with (go_at_call 83; refine (flagsOf_any _ _ _ _ _ _).mono ?_; rw [HF.out]; rintro e w1 ⟨rfl, hb1⟩)
  refine bodyPost_ret (v := .int .i64 3) (by simp [results, Tryz.results65, go_sem]) rfl ?_
  exact ⟨rfl, (by repeat' (first | with_reducible exact Below.refl _ _ | with_reducible assumption | with_reducible apply Below.drew | with_reducible apply below_drewN | with_reducible apply Below.alloc | with_reducible apply Below.setCell | (with_reducible refine Below.trans ?_ (Below.mono (by assumption) ?_)) | (simp; done) | (simp; omega) | omega | with_reducible apply le_size_alloc | with_reducible apply le_size_drewN | with_reducible apply le_size_drew | with_reducible apply le_size_setCell | refine Nat.le_trans ?_ (Below.size (by assumption))))⟩

set_option maxRecDepth 100000 in
set_option maxHeartbeats 2000000 in
theorem eCk0z (a b c : Bool) (w : World) (hal : AL w)  (hf : (a || b || c) = false) : Calls Tryz.prog 65 #[entV 0 0 a b c] w fun e w' => e = .returned (.int .i64 0) ∧ Below w.heap.size w w' := by
  have h0 := hal.1
  have c5 : w.cell? ⟨0, 5, none⟩ = some (.int .u64 255) := hal.2 5 _ rfl
  have HF : Hid (flgN a b c = 0) := flgN_zero hf
  clear hf
  unfold entV
  go_enter Tryz.func65, Tryz.ntmps65
  go_wp2_with (go_at_call 83; refine (flagsOf_any _ _ _ _ _ _).mono ?_; rw [HF.out]; rintro e w1 ⟨rfl, hb1⟩)
  refine bodyPost_ret (v := .int .i64 0) (by simp [results, Tryz.results65, go_sem]) rfl ?_
  exact ⟨rfl, (by repeat' (first | with_reducible exact Below.refl _ _ | with_reducible assumption | with_reducible apply Below.drew | with_reducible apply below_drewN | with_reducible apply Below.alloc | with_reducible apply Below.setCell | (with_reducible refine Below.trans ?_ (Below.mono (by assumption) ?_)) | (simp; done) | (simp; omega) | omega | with_reducible apply le_size_alloc | with_reducible apply le_size_drewN | with_reducible apply le_size_drew | with_reducible apply le_size_setCell | refine Nat.le_trans ?_ (Below.size (by assumption))))⟩

set_option maxRecDepth 100000 in
set_option maxHeartbeats 2000000 in
theorem eCk2f (n : Int) (a b c : Bool) (w : World) (hal : AL w) (h1 : 0 ≤ n) (h2 : n ≤ 255) (hf : (a || b || c) = true) : Calls Tryz.prog 65 #[entV 2 n a b c] w fun e w' => e = .returned (.int .i64 3) ∧ Below w.heap.size w w' := by
  have h0 := hal.1
  have c5 : w.cell? ⟨0, 5, none⟩ = some (.int .u64 255) := hal.2 5 _ rfl
  obtain ⟨F, hF⟩ : ∃ F, flgN a b c = F := ⟨_, rfl⟩
  have hp := flgN_pos hf
  rw [hF] at hp
  have HF := Lib.hid hF
  clear hF hf
  unfold entV
  go_enter Tryz.func65, Tryz.ntmps65
  go_wp2_with (go_at_call 83; refine (flagsOf_any _ _ _ _ _ _).mono ?_; rw [HF.out]; rintro e w1 ⟨rfl, hb1⟩)
  refine bodyPost_ret (v := .int .i64 3) (by simp [results, Tryz.results65, go_sem]) rfl ?_
  exact ⟨rfl, (by repeat' (first | with_reducible exact Below.refl _ _ | with_reducible assumption | with_reducible apply Below.drew | with_reducible apply below_drewN | with_reducible apply Below.alloc | with_reducible apply Below.setCell | (with_reducible refine Below.trans ?_ (Below.mono (by assumption) ?_)) | (simp; done) | (simp; omega) | omega | with_reducible apply le_size_alloc | with_reducible apply le_size_drewN | with_reducible apply le_size_drew | with_reducible apply le_size_setCell | refine Nat.le_trans ?_ (Below.size (by assumption))))⟩

set_option maxRecDepth 100000 in
set_option maxHeartbeats 2000000 in
theorem eCk2z (n : Int) (a b c : Bool) (w : World) (hal : AL w) (h1 : 0 ≤ n) (h2 : n ≤ 255) (hf : (a || b || c) = false) : Calls Tryz.prog 65 #[entV 2 n a b c] w fun e w' => e = .returned (.int .i64 0) ∧ Below w.heap.size w w' := by
  have h0 := hal.1
  have c5 : w.cell? ⟨0, 5, none⟩ = some (.int .u64 255) := hal.2 5 _ rfl
  have HF : Hid (flgN a b c = 0) := flgN_zero hf
  clear hf
  unfold entV
  go_enter Tryz.func65, Tryz.ntmps65
  go_wp2_with (go_at_call 83; refine (flagsOf_any _ _ _ _ _ _).mono ?_; rw [HF.out]; rintro e w1 ⟨rfl, hb1⟩)
  refine bodyPost_ret (v := .int .i64 0) (by simp [results, Tryz.results65, go_sem]) rfl ?_
  exact ⟨rfl, (by repeat' (first | with_reducible exact Below.refl _ _ | with_reducible assumption | with_reducible apply Below.drew | with_reducible apply below_drewN | with_reducible apply Below.alloc | with_reducible apply Below.setCell | (with_reducible refine Below.trans ?_ (Below.mono (by assumption) ?_)) | (simp; done) | (simp; omega) | omega | with_reducible apply le_size_alloc | with_reducible apply le_size_drewN | with_reducible apply le_size_drew | with_reducible apply le_size_setCell | refine Nat.le_trans ?_ (Below.size (by assumption))))⟩

set_option maxRecDepth 100000 in
set_option maxHeartbeats 2000000 in
theorem rCk16 (k n : Int) (a b c : Bool) (w : World) (h : ¬ (k = 0 ∨ k = 1 ∨ k = 2)) : Calls Tryz.prog 72 #[entV k n a b c] w fun e w' => e = .returned (.int .i64 16) ∧ Below w.heap.size w w' := by
  obtain ⟨k0, k1, k2⟩ : (k != 0) = true ∧ (k != 1) = true ∧ (k != 2) = true := by simp; omega
  obtain ⟨k3, k4, k5⟩ : (k == 0) = false ∧ (k == 1) = false ∧ (k == 2) = false := by simp; omega
  clear h
  unfold entV
  go_enter Tryz.func72, Tryz.ntmps72
  go_wp2
  refine bodyPost_ret (v := .int .i64 16) (by simp [results, Tryz.results72, go_sem]) rfl ?_
  exact ⟨rfl, (by repeat' (first | with_reducible exact Below.refl _ _ | with_reducible assumption | with_reducible apply Below.drew | with_reducible apply below_drewN | with_reducible apply Below.alloc | with_reducible apply Below.setCell | (with_reducible refine Below.trans ?_ (Below.mono (by assumption) ?_)) | (simp; done) | (simp; omega) | omega | with_reducible apply le_size_alloc | with_reducible apply le_size_drewN | with_reducible apply le_size_drew | with_reducible apply le_size_setCell | refine Nat.le_trans ?_ (Below.size (by assumption))))⟩

set_option maxRecDepth 100000 in
set_option maxHeartbeats 2000000 in
theorem rCk20n (n : Int) (a b c : Bool) (w : World) (h : n < 0) : Calls Tryz.prog 72 #[entV 0 n a b c] w fun e w' => e = .returned (.int .i64 2) ∧ Below w.heap.size w w' := by
  unfold entV
  go_enter Tryz.func72, Tryz.ntmps72
  go_wp2
  refine bodyPost_ret (v := .int .i64 2) (by simp [results, Tryz.results72, go_sem]) rfl ?_
  exact ⟨rfl, (by repeat' (first | with_reducible exact Below.refl _ _ | with_reducible assumption | with_reducible apply Below.drew | with_reducible apply below_drewN | with_reducible apply Below.alloc | with_reducible apply Below.setCell | (with_reducible refine Below.trans ?_ (Below.mono (by assumption) ?_)) | (simp; done) | (simp; omega) | omega | with_reducible apply le_size_alloc | with_reducible apply le_size_drewN | with_reducible apply le_size_drew | with_reducible apply le_size_setCell | refine Nat.le_trans ?_ (Below.size (by assumption))))⟩

set_option maxRecDepth 100000 in
set_option maxHeartbeats 2000000 in
theorem rCk20p (n : Int) (a b c : Bool) (w : World) (h : 255 < n) : Calls Tryz.prog 72 #[entV 0 n a b c] w fun e w' => e = .returned (.int .i64 2) ∧ Below w.heap.size w w' := by
  have h1 : 0 ≤ n := by omega
  unfold entV
  go_enter Tryz.func72, Tryz.ntmps72
  go_wp2
  refine bodyPost_ret (v := .int .i64 2) (by simp [results, Tryz.results72, go_sem]) rfl ?_
  exact ⟨rfl, (by repeat' (first | with_reducible exact Below.refl _ _ | with_reducible assumption | with_reducible apply Below.drew | with_reducible apply below_drewN | with_reducible apply Below.alloc | with_reducible apply Below.setCell | (with_reducible refine Below.trans ?_ (Below.mono (by assumption) ?_)) | (simp; done) | (simp; omega) | omega | with_reducible apply le_size_alloc | with_reducible apply le_size_drewN | with_reducible apply le_size_drew | with_reducible apply le_size_setCell | refine Nat.le_trans ?_ (Below.size (by assumption))))⟩

set_option maxRecDepth 100000 in
set_option maxHeartbeats 2000000 in
theorem rCk21n (n : Int) (a b c : Bool) (w : World) (h : n < 0) : Calls Tryz.prog 72 #[entV 1 n a b c] w fun e w' => e = .returned (.int .i64 2) ∧ Below w.heap.size w w' := by
  unfold entV
  go_enter Tryz.func72, Tryz.ntmps72
  go_wp2
  refine bodyPost_ret (v := .int .i64 2) (by simp [results, Tryz.results72, go_sem]) rfl ?_
  exact ⟨rfl, (by repeat' (first | with_reducible exact Below.refl _ _ | with_reducible assumption | with_reducible apply Below.drew | with_reducible apply below_drewN | with_reducible apply Below.alloc | with_reducible apply Below.setCell | (with_reducible refine Below.trans ?_ (Below.mono (by assumption) ?_)) | (simp; done) | (simp; omega) | omega | with_reducible apply le_size_alloc | with_reducible apply le_size_drewN | with_reducible apply le_size_drew | with_reducible apply le_size_setCell | refine Nat.le_trans ?_ (Below.size (by assumption))))⟩

set_option maxRecDepth 100000 in
set_option maxHeartbeats 2000000 in
theorem rCk21p (n : Int) (a b c : Bool) (w : World) (h : 255 < n) : Calls Tryz.prog 72 #[entV 1 n a b c] w fun e w' => e = .returned (.int .i64 2) ∧ Below w.heap.size w w' := by
  have h1 : 0 ≤ n := by omega
  unfold entV
  go_enter Tryz.func72, Tryz.ntmps72
  go_wp2
  refine bodyPost_ret (v := .int .i64 2) (by simp [results, Tryz.results72, go_sem]) rfl ?_
  exact ⟨rfl, (by repeat' (first | with_reducible exact Below.refl _ _ | with_reducible assumption | with_reducible apply Below.drew | with_reducible apply below_drewN | with_reducible apply Below.alloc | with_reducible apply Below.setCell | (with_reducible refine Below.trans ?_ (Below.mono (by assumption) ?_)) | (simp; done) | (simp; omega) | omega | with_reducible apply le_size_alloc | with_reducible apply le_size_drewN | with_reducible apply le_size_drew | with_reducible apply le_size_setCell | refine Nat.le_trans ?_ (Below.size (by assumption))))⟩

set_option maxRecDepth 100000 in
set_option maxHeartbeats 2000000 in
theorem rCk22n (n : Int) (a b c : Bool) (w : World) (h : n < 0) : Calls Tryz.prog 72 #[entV 2 n a b c] w fun e w' => e = .returned (.int .i64 2) ∧ Below w.heap.size w w' := by
  unfold entV
  go_enter Tryz.func72, Tryz.ntmps72
  go_wp2
  refine bodyPost_ret (v := .int .i64 2) (by simp [results, Tryz.results72, go_sem]) rfl ?_
  exact ⟨rfl, (by repeat' (first | with_reducible exact Below.refl _ _ | with_reducible assumption | with_reducible apply Below.drew | with_reducible apply below_drewN | with_reducible apply Below.alloc | with_reducible apply Below.setCell | (with_reducible refine Below.trans ?_ (Below.mono (by assumption) ?_)) | (simp; done) | (simp; omega) | omega | with_reducible apply le_size_alloc | with_reducible apply le_size_drewN | with_reducible apply le_size_drew | with_reducible apply le_size_setCell | refine Nat.le_trans ?_ (Below.size (by assumption))))⟩

set_option maxRecDepth 100000 in
set_option maxHeartbeats 2000000 in
theorem rCk22p (n : Int) (a b c : Bool) (w : World) (h : 255 < n) : Calls Tryz.prog 72 #[entV 2 n a b c] w fun e w' => e = .returned (.int .i64 2) ∧ Below w.heap.size w w' := by
  have h1 : 0 ≤ n := by omega
  unfold entV
  go_enter Tryz.func72, Tryz.ntmps72
  go_wp2
  refine bodyPost_ret (v := .int .i64 2) (by simp [results, Tryz.results72, go_sem]) rfl ?_
  exact ⟨rfl, (by repeat' (first | with_reducible exact Below.refl _ _ | with_reducible assumption | with_reducible apply Below.drew | with_reducible apply below_drewN | with_reducible apply Below.alloc | with_reducible apply Below.setCell | (with_reducible refine Below.trans ?_ (Below.mono (by assumption) ?_)) | (simp; done) | (simp; omega) | omega | with_reducible apply le_size_alloc | with_reducible apply le_size_drewN | with_reducible apply le_size_drew | with_reducible apply le_size_setCell | refine Nat.le_trans ?_ (Below.size (by assumption))))⟩

set_option maxRecDepth 100000 in
set_option maxHeartbeats 2000000 in
theorem rCk20z (n : Int) (a b c : Bool) (w : World) (h1 : 0 ≤ n) (h2 : n ≤ 255) (h3 : n ≠ 0) : Calls Tryz.prog 72 #[entV 0 n a b c] w fun e w' => e = .returned (.int .i64 2) ∧ Below w.heap.size w w' := by
  have h4 : (n != 0) = true := by simpa using h3
  have h5 : 1 ≤ n := by omega
  clear h3
  unfold entV
  go_enter Tryz.func72, Tryz.ntmps72
  go_wp2
  refine bodyPost_ret (v := .int .i64 2) (by simp [results, Tryz.results72, go_sem]) rfl ?_
  exact ⟨rfl, (by repeat' (first | with_reducible exact Below.refl _ _ | with_reducible assumption | with_reducible apply Below.drew | with_reducible apply below_drewN | with_reducible apply Below.alloc | with_reducible apply Below.setCell | (with_reducible refine Below.trans ?_ (Below.mono (by assumption) ?_)) | (simp; done) | (simp; omega) | omega | with_reducible apply le_size_alloc | with_reducible apply le_size_drewN | with_reducible apply le_size_drew | with_reducible apply le_size_setCell | refine Nat.le_trans ?_ (Below.size (by assumption))))⟩

set_option maxRecDepth 100000 in
set_option maxHeartbeats 2000000 in
theorem rCk1ff (n : Int) (c : Bool) (w : World) (h1 : 0 ≤ n) (h2 : n ≤ 255) : Calls Tryz.prog 72 #[entV 1 n false false c] w fun e w' => e = .returned (.int .i64 3) ∧ Below w.heap.size w w' := by
  unfold entV
  go_enter Tryz.func72, Tryz.ntmps72
  go_wp2
  refine bodyPost_ret (v := .int .i64 3) (by simp [results, Tryz.results72, go_sem]) rfl ?_
  exact ⟨rfl, (by repeat' (first | with_reducible exact Below.refl _ _ | with_reducible assumption | with_reducible apply Below.drew | with_reducible apply below_drewN | with_reducible apply Below.alloc | with_reducible apply Below.setCell | (with_reducible refine Below.trans ?_ (Below.mono (by assumption) ?_)) | (simp; done) | (simp; omega) | omega | with_reducible apply le_size_alloc | with_reducible apply le_size_drewN | with_reducible apply le_size_drew | with_reducible apply le_size_setCell | refine Nat.le_trans ?_ (Below.size (by assumption))))⟩

set_option maxRecDepth 100000 in
set_option maxHeartbeats 2000000 in
theorem rCk1ft (n : Int) (c : Bool) (w : World) (h1 : 0 ≤ n) (h2 : n ≤ 255) : Calls Tryz.prog 72 #[entV 1 n false true c] w fun e w' => e = .returned (.int .i64 0) ∧ Below w.heap.size w w' := by
  unfold entV
  go_enter Tryz.func72, Tryz.ntmps72
  go_wp2
  refine bodyPost_ret (v := .int .i64 0) (by simp [results, Tryz.results72, go_sem]) rfl ?_
  exact ⟨rfl, (by repeat' (first | with_reducible exact Below.refl _ _ | with_reducible assumption | with_reducible apply Below.drew | with_reducible apply below_drewN | with_reducible apply Below.alloc | with_reducible apply Below.setCell | (with_reducible refine Below.trans ?_ (Below.mono (by assumption) ?_)) | (simp; done) | (simp; omega) | omega | with_reducible apply le_size_alloc | with_reducible apply le_size_drewN | with_reducible apply le_size_drew | with_reducible apply le_size_setCell | refine Nat.le_trans ?_ (Below.size (by assumption))))⟩

set_option maxRecDepth 100000 in
set_option maxHeartbeats 2000000 in
theorem rCk1tf (n : Int) (c : Bool) (w : World) (h1 : 0 ≤ n) (h2 : n ≤ 255) : Calls Tryz.prog 72 #[entV 1 n true false c] w fun e w' => e = .returned (.int .i64 0) ∧ Below w.heap.size w w' := by
  unfold entV
  go_enter Tryz.func72, Tryz.ntmps72
  go_wp2
  refine bodyPost_ret (v := .int .i64 0) (by simp [results, Tryz.results72, go_sem]) rfl ?_
  exact ⟨rfl, (by repeat' (first | with_reducible exact Below.refl _ _ | with_reducible assumption | with_reducible apply Below.drew | with_reducible apply below_drewN | with_reducible apply Below.alloc | with_reducible apply Below.setCell | (with_reducible refine Below.trans ?_ (Below.mono (by assumption) ?_)) | (simp; done) | (simp; omega) | omega | with_reducible apply le_size_alloc | with_reducible apply le_size_drewN | with_reducible apply le_size_drew | with_reducible apply le_size_setCell | refine Nat.le_trans ?_ (Below.size (by assumption))))⟩

set_option maxRecDepth 100000 in
set_option maxHeartbeats 2000000 in
theorem rCk1tt (n : Int) (c : Bool) (w : World) (h1 : 0 ≤ n) (h2 : n ≤ 255) : Calls Tryz.prog 72 #[entV 1 n true true c] w fun e w' => e = .returned (.int .i64 3) ∧ Below w.heap.size w w' := by
  unfold entV
  go_enter Tryz.func72, Tryz.ntmps72
  go_wp2
  refine bodyPost_ret (v := .int .i64 3) (by simp [results, Tryz.results72, go_sem]) rfl ?_
  exact ⟨rfl, (by repeat' (first | with_reducible exact Below.refl _ _ | with_reducible assumption | with_reducible apply Below.drew | with_reducible apply below_drewN | with_reducible apply Below.alloc | with_reducible apply Below.setCell | (with_reducible refine Below.trans ?_ (Below.mono (by assumption) ?_)) | (simp; done) | (simp; omega) | omega | with_reducible apply le_size_alloc | with_reducible apply le_size_drewN | with_reducible apply le_size_drew | with_reducible apply le_size_setCell | refine Nat.le_trans ?_ (Below.size (by assumption))))⟩

set_option maxRecDepth 100000 in
set_option maxHeartbeats 2000000 in
theorem rCk0fff  (w : World)  : Calls Tryz.prog 72 #[entV 0 0 false false false] w fun e w' => e = .returned (.int .i64 0) ∧ Below w.heap.size w w' := by
  unfold entV
  go_enter Tryz.func72, Tryz.ntmps72
  go_wp2
  refine bodyPost_ret (v := .int .i64 0) (by simp [results, Tryz.results72, go_sem]) rfl ?_
  exact ⟨rfl, (by repeat' (first | with_reducible exact Below.refl _ _ | with_reducible assumption | with_reducible apply Below.drew | with_reducible apply below_drewN | with_reducible apply Below.alloc | with_reducible apply Below.setCell | (with_reducible refine Below.trans ?_ (Below.mono (by assumption) ?_)) | (simp; done) | (simp; omega) | omega | with_reducible apply le_size_alloc | with_reducible apply le_size_drewN | with_reducible apply le_size_drew | with_reducible apply le_size_setCell | refine Nat.le_trans ?_ (Below.size (by assumption))))⟩

set_option maxRecDepth 100000 in
set_option maxHeartbeats 2000000 in
theorem rCk0fft  (w : World)  : Calls Tryz.prog 72 #[entV 0 0 false false true] w fun e w' => e = .returned (.int .i64 3) ∧ Below w.heap.size w w' := by
  unfold entV
  go_enter Tryz.func72, Tryz.ntmps72
  go_wp2
  refine bodyPost_ret (v := .int .i64 3) (by simp [results, Tryz.results72, go_sem]) rfl ?_
  exact ⟨rfl, (by repeat' (first | with_reducible exact Below.refl _ _ | with_reducible assumption | with_reducible apply Below.drew | with_reducible apply below_drewN | with_reducible apply Below.alloc | with_reducible apply Below.setCell | (with_reducible refine Below.trans ?_ (Below.mono (by assumption) ?_)) | (simp; done) | (simp; omega) | omega | with_reducible apply le_size_alloc | with_reducible apply le_size_drewN | with_reducible apply le_size_drew | with_reducible apply le_size_setCell | refine Nat.le_trans ?_ (Below.size (by assumption))))⟩

set_option maxRecDepth 100000 in
set_option maxHeartbeats 2000000 in
theorem rCk0ftf  (w : World)  : Calls Tryz.prog 72 #[entV 0 0 false true false] w fun e w' => e = .returned (.int .i64 3) ∧ Below w.heap.size w w' := by
  unfold entV
  go_enter Tryz.func72, Tryz.ntmps72
  go_wp2
  refine bodyPost_ret (v := .int .i64 3) (by simp [results, Tryz.results72, go_sem]) rfl ?_
  exact ⟨rfl, (by repeat' (first | with_reducible exact Below.refl _ _ | with_reducible assumption | with_reducible apply Below.drew | with_reducible apply below_drewN | with_reducible apply Below.alloc | with_reducible apply Below.setCell | (with_reducible refine Below.trans ?_ (Below.mono (by assumption) ?_)) | (simp; done) | (simp; omega) | omega | with_reducible apply le_size_alloc | with_reducible apply le_size_drewN | with_reducible apply le_size_drew | with_reducible apply le_size_setCell | refine Nat.le_trans ?_ (Below.size (by assumption))))⟩

set_option maxRecDepth 100000 in
set_option maxHeartbeats 2000000 in
theorem rCk0ftt  (w : World)  : Calls Tryz.prog 72 #[entV 0 0 false true true] w fun e w' => e = .returned (.int .i64 3) ∧ Below w.heap.size w w' := by
  unfold entV
  go_enter Tryz.func72, Tryz.ntmps72
  go_wp2
  refine bodyPost_ret (v := .int .i64 3) (by simp [results, Tryz.results72, go_sem]) rfl ?_
  exact ⟨rfl, (by repeat' (first | with_reducible exact Below.refl _ _ | with_reducible assumption | with_reducible apply Below.drew | with_reducible apply below_drewN | with_reducible apply Below.alloc | with_reducible apply Below.setCell | (with_reducible refine Below.trans ?_ (Below.mono (by assumption) ?_)) | (simp; done) | (simp; omega) | omega | with_reducible apply le_size_alloc | with_reducible apply le_size_drewN | with_reducible apply le_size_drew | with_reducible apply le_size_setCell | refine Nat.le_trans ?_ (Below.size (by assumption))))⟩

set_option maxRecDepth 100000 in
set_option maxHeartbeats 2000000 in
theorem rCk0tff  (w : World)  : Calls Tryz.prog 72 #[entV 0 0 true false false] w fun e w' => e = .returned (.int .i64 3) ∧ Below w.heap.size w w' := by
  unfold entV
  go_enter Tryz.func72, Tryz.ntmps72
  go_wp2
  refine bodyPost_ret (v := .int .i64 3) (by simp [results, Tryz.results72, go_sem]) rfl ?_
  exact ⟨rfl, (by repeat' (first | with_reducible exact Below.refl _ _ | with_reducible assumption | with_reducible apply Below.drew | with_reducible apply below_drewN | with_reducible apply Below.alloc | with_reducible apply Below.setCell | (with_reducible refine Below.trans ?_ (Below.mono (by assumption) ?_)) | (simp; done) | (simp; omega) | omega | with_reducible apply le_size_alloc | with_reducible apply le_size_drewN | with_reducible apply le_size_drew | with_reducible apply le_size_setCell | refine Nat.le_trans ?_ (Below.size (by assumption))))⟩

set_option maxRecDepth 100000 in
set_option maxHeartbeats 2000000 in
theorem rCk0tft  (w : World)  : Calls Tryz.prog 72 #[entV 0 0 true false true] w fun e w' => e = .returned (.int .i64 3) ∧ Below w.heap.size w w' := by
  unfold entV
  go_enter Tryz.func72, Tryz.ntmps72
  go_wp2
  refine bodyPost_ret (v := .int .i64 3) (by simp [results, Tryz.results72, go_sem]) rfl ?_
  exact ⟨rfl, (by repeat' (first | with_reducible exact Below.refl _ _ | with_reducible assumption | with_reducible apply Below.drew | with_reducible apply below_drewN | with_reducible apply Below.alloc | with_reducible apply Below.setCell | (with_reducible refine Below.trans ?_ (Below.mono (by assumption) ?_)) | (simp; done) | (simp; omega) | omega | with_reducible apply le_size_alloc | with_reducible apply le_size_drewN | with_reducible apply le_size_drew | with_reducible apply le_size_setCell | refine Nat.le_trans ?_ (Below.size (by assumption))))⟩

set_option maxRecDepth 100000 in
set_option maxHeartbeats 2000000 in
theorem rCk0ttf  (w : World)  : Calls Tryz.prog 72 #[entV 0 0 true true false] w fun e w' => e = .returned (.int .i64 3) ∧ Below w.heap.size w w' := by
  unfold entV
  go_enter Tryz.func72, Tryz.ntmps72
  go_wp2
  refine bodyPost_ret (v := .int .i64 3) (by simp [results, Tryz.results72, go_sem]) rfl ?_
  exact ⟨rfl, (by repeat' (first | with_reducible exact Below.refl _ _ | with_reducible assumption | with_reducible apply Below.drew | with_reducible apply below_drewN | with_reducible apply Below.alloc | with_reducible apply Below.setCell | (with_reducible refine Below.trans ?_ (Below.mono (by assumption) ?_)) | (simp; done) | (simp; omega) | omega | with_reducible apply le_size_alloc | with_reducible apply le_size_drewN | with_reducible apply le_size_drew | with_reducible apply le_size_setCell | refine Nat.le_trans ?_ (Below.size (by assumption))))⟩

set_option maxRecDepth 100000 in
set_option maxHeartbeats 2000000 in
theorem rCk0ttt  (w : World)  : Calls Tryz.prog 72 #[entV 0 0 true true true] w fun e w' => e = .returned (.int .i64 3) ∧ Below w.heap.size w w' := by
  unfold entV
  go_enter Tryz.func72, Tryz.ntmps72
  go_wp2
  refine bodyPost_ret (v := .int .i64 3) (by simp [results, Tryz.results72, go_sem]) rfl ?_
  exact ⟨rfl, (by repeat' (first | with_reducible exact Below.refl _ _ | with_reducible assumption | with_reducible apply Below.drew | with_reducible apply below_drewN | with_reducible apply Below.alloc | with_reducible apply Below.setCell | (with_reducible refine Below.trans ?_ (Below.mono (by assumption) ?_)) | (simp; done) | (simp; omega) | omega | with_reducible apply le_size_alloc | with_reducible apply le_size_drewN | with_reducible apply le_size_drew | with_reducible apply le_size_setCell | refine Nat.le_trans ?_ (Below.size (by assumption))))⟩

set_option maxRecDepth 100000 in
set_option maxHeartbeats 2000000 in
theorem rCk2fff (n : Int)  (w : World) (h1 : 0 ≤ n) (h2 : n ≤ 255) : Calls Tryz.prog 72 #[entV 2 n false false false] w fun e w' => e = .returned (.int .i64 0) ∧ Below w.heap.size w w' := by
  unfold entV
  go_enter Tryz.func72, Tryz.ntmps72
  go_wp2
  refine bodyPost_ret (v := .int .i64 0) (by simp [results, Tryz.results72, go_sem]) rfl ?_
  exact ⟨rfl, (by repeat' (first | with_reducible exact Below.refl _ _ | with_reducible assumption | with_reducible apply Below.drew | with_reducible apply below_drewN | with_reducible apply Below.alloc | with_reducible apply Below.setCell | (with_reducible refine Below.trans ?_ (Below.mono (by assumption) ?_)) | (simp; done) | (simp; omega) | omega | with_reducible apply le_size_alloc | with_reducible apply le_size_drewN | with_reducible apply le_size_drew | with_reducible apply le_size_setCell | refine Nat.le_trans ?_ (Below.size (by assumption))))⟩

set_option maxRecDepth 100000 in
set_option maxHeartbeats 2000000 in
theorem rCk2fft (n : Int)  (w : World) (h1 : 0 ≤ n) (h2 : n ≤ 255) : Calls Tryz.prog 72 #[entV 2 n false false true] w fun e w' => e = .returned (.int .i64 3) ∧ Below w.heap.size w w' := by
  unfold entV
  go_enter Tryz.func72, Tryz.ntmps72
  go_wp2
  refine bodyPost_ret (v := .int .i64 3) (by simp [results, Tryz.results72, go_sem]) rfl ?_
  exact ⟨rfl, (by repeat' (first | with_reducible exact Below.refl _ _ | with_reducible assumption | with_reducible apply Below.drew | with_reducible apply below_drewN | with_reducible apply Below.alloc | with_reducible apply Below.setCell | (with_reducible refine Below.trans ?_ (Below.mono (by assumption) ?_)) | (simp; done) | (simp; omega) | omega | with_reducible apply le_size_alloc | with_reducible apply le_size_drewN | with_reducible apply le_size_drew | with_reducible apply le_size_setCell | refine Nat.le_trans ?_ (Below.size (by assumption))))⟩

set_option maxRecDepth 100000 in
set_option maxHeartbeats 2000000 in
theorem rCk2ftf (n : Int)  (w : World) (h1 : 0 ≤ n) (h2 : n ≤ 255) : Calls Tryz.prog 72 #[entV 2 n false true false] w fun e w' => e = .returned (.int .i64 3) ∧ Below w.heap.size w w' := by
  unfold entV
  go_enter Tryz.func72, Tryz.ntmps72
  go_wp2
  refine bodyPost_ret (v := .int .i64 3) (by simp [results, Tryz.results72, go_sem]) rfl ?_
  exact ⟨rfl, (by repeat' (first | with_reducible exact Below.refl _ _ | with_reducible assumption | with_reducible apply Below.drew | with_reducible apply below_drewN | with_reducible apply Below.alloc | with_reducible apply Below.setCell | (with_reducible refine Below.trans ?_ (Below.mono (by assumption) ?_)) | (simp; done) | (simp; omega) | omega | with_reducible apply le_size_alloc | with_reducible apply le_size_drewN | with_reducible apply le_size_drew | with_reducible apply le_size_setCell | refine Nat.le_trans ?_ (Below.size (by assumption))))⟩

set_option maxRecDepth 100000 in
set_option maxHeartbeats 2000000 in
theorem rCk2ftt (n : Int)  (w : World) (h1 : 0 ≤ n) (h2 : n ≤ 255) : Calls Tryz.prog 72 #[entV 2 n false true true] w fun e w' => e = .returned (.int .i64 3) ∧ Below w.heap.size w w' := by
  unfold entV
  go_enter Tryz.func72, Tryz.ntmps72
  go_wp2
  refine bodyPost_ret (v := .int .i64 3) (by simp [results, Tryz.results72, go_sem]) rfl ?_
  exact ⟨rfl, (by repeat' (first | with_reducible exact Below.refl _ _ | with_reducible assumption | with_reducible apply Below.drew | with_reducible apply below_drewN | with_reducible apply Below.alloc | with_reducible apply Below.setCell | (with_reducible refine Below.trans ?_ (Below.mono (by assumption) ?_)) | (simp; done) | (simp; omega) | omega | with_reducible apply le_size_alloc | with_reducible apply le_size_drewN | with_reducible apply le_size_drew | with_reducible apply le_size_setCell | refine Nat.le_trans ?_ (Below.size (by assumption))))⟩

set_option maxRecDepth 100000 in
set_option maxHeartbeats 2000000 in
theorem rCk2tff (n : Int)  (w : World) (h1 : 0 ≤ n) (h2 : n ≤ 255) : Calls Tryz.prog 72 #[entV 2 n true false false] w fun e w' => e = .returned (.int .i64 3) ∧ Below w.heap.size w w' := by
  unfold entV
  go_enter Tryz.func72, Tryz.ntmps72
  go_wp2
  refine bodyPost_ret (v := .int .i64 3) (by simp [results, Tryz.results72, go_sem]) rfl ?_
  exact ⟨rfl, (by repeat' (first | with_reducible exact Below.refl _ _ | with_reducible assumption | with_reducible apply Below.drew | with_reducible apply below_drewN | with_reducible apply Below.alloc | with_reducible apply Below.setCell | (with_reducible refine Below.trans ?_ (Below.mono (by assumption) ?_)) | (simp; done) | (simp; omega) | omega | with_reducible apply le_size_alloc | with_reducible apply le_size_drewN | with_reducible apply le_size_drew | with_reducible apply le_size_setCell | refine Nat.le_trans ?_ (Below.size (by assumption))))⟩

set_option maxRecDepth 100000 in
set_option maxHeartbeats 2000000 in
theorem rCk2tft (n : Int)  (w : World) (h1 : 0 ≤ n) (h2 : n ≤ 255) : Calls Tryz.prog 72 #[entV 2 n true false true] w fun e w' => e = .returned (.int .i64 3) ∧ Below w.heap.size w w' := by
  unfold entV
  go_enter Tryz.func72, Tryz.ntmps72
  go_wp2
  refine bodyPost_ret (v := .int .i64 3) (by simp [results, Tryz.results72, go_sem]) rfl ?_
  exact ⟨rfl, (by repeat' (first | with_reducible exact Below.refl _ _ | with_reducible assumption | with_reducible apply Below.drew | with_reducible apply below_drewN | with_reducible apply Below.alloc | with_reducible apply Below.setCell | (with_reducible refine Below.trans ?_ (Below.mono (by assumption) ?_)) | (simp; done) | (simp; omega) | omega | with_reducible apply le_size_alloc | with_reducible apply le_size_drewN | with_reducible apply le_size_drew | with_reducible apply le_size_setCell | refine Nat.le_trans ?_ (Below.size (by assumption))))⟩

set_option maxRecDepth 100000 in
set_option maxHeartbeats 2000000 in
theorem rCk2ttf (n : Int)  (w : World) (h1 : 0 ≤ n) (h2 : n ≤ 255) : Calls Tryz.prog 72 #[entV 2 n true true false] w fun e w' => e = .returned (.int .i64 3) ∧ Below w.heap.size w w' := by
  unfold entV
  go_enter Tryz.func72, Tryz.ntmps72
  go_wp2
  refine bodyPost_ret (v := .int .i64 3) (by simp [results, Tryz.results72, go_sem]) rfl ?_
  exact ⟨rfl, (by repeat' (first | with_reducible exact Below.refl _ _ | with_reducible assumption | with_reducible apply Below.drew | with_reducible apply below_drewN | with_reducible apply Below.alloc | with_reducible apply Below.setCell | (with_reducible refine Below.trans ?_ (Below.mono (by assumption) ?_)) | (simp; done) | (simp; omega) | omega | with_reducible apply le_size_alloc | with_reducible apply le_size_drewN | with_reducible apply le_size_drew | with_reducible apply le_size_setCell | refine Nat.le_trans ?_ (Below.size (by assumption))))⟩

set_option maxRecDepth 100000 in
set_option maxHeartbeats 2000000 in
theorem rCk2ttt (n : Int)  (w : World) (h1 : 0 ≤ n) (h2 : n ≤ 255) : Calls Tryz.prog 72 #[entV 2 n true true true] w fun e w' => e = .returned (.int .i64 3) ∧ Below w.heap.size w w' := by
  unfold entV
  go_enter Tryz.func72, Tryz.ntmps72
  go_wp2
  refine bodyPost_ret (v := .int .i64 3) (by simp [results, Tryz.results72, go_sem]) rfl ?_
  exact ⟨rfl, (by repeat' (first | with_reducible exact Below.refl _ _ | with_reducible assumption | with_reducible apply Below.drew | with_reducible apply below_drewN | with_reducible apply Below.alloc | with_reducible apply Below.setCell | (with_reducible refine Below.trans ?_ (Below.mono (by assumption) ?_)) | (simp; done) | (simp; omega) | omega | with_reducible apply le_size_alloc | with_reducible apply le_size_drewN | with_reducible apply le_size_drew | with_reducible apply le_size_setCell | refine Nat.le_trans ?_ (Below.size (by assumption))))⟩

theorem eCheck_any (k n : Int) (a b c : Bool) (w : World) (hal : AL w) : Calls Tryz.prog 65 #[entV k n a b c] w fun e w' => e = .returned (.int .i64 (chkE k n a b c)) ∧ Below w.heap.size w w' := by
  by_cases hk : k = 0 ∨ k = 1 ∨ k = 2
  rotate_left
  · rw [show chkE k n a b c = 16 from if_pos hk]
    exact eCk16 k n a b c w hal hk
  by_cases hn : n < 0 ∨ 255 < n ∨ (k = 0 ∧ n ≠ 0)
  · rw [show chkE k n a b c = 2 by unfold chkE; rw [if_neg (fun h => h hk), if_pos hn]]
    rcases (by omega : n < 0 ∨ (0 ≤ n ∧ 255 < n) ∨ (0 ≤ n ∧ n ≤ 255 ∧ n ≠ 0 ∧ k = 0)) with h1 | ⟨h1, h2⟩ | ⟨h1, h2, h3, rfl⟩
    · rcases hk with rfl | rfl | rfl
      · exact eCk20n n a b c w hal h1
      · exact eCk21n n a b c w hal h1
      · exact eCk22n n a b c w hal h1
    · rcases hk with rfl | rfl | rfl
      · exact eCk20p n a b c w hal h2
      · exact eCk21p n a b c w hal h2
      · exact eCk22p n a b c w hal h2
    · exact eCk20z n a b c w hal h1 h2 h3
  obtain ⟨n0, n1, n2⟩ : 0 ≤ n ∧ n ≤ 255 ∧ (k = 0 → n = 0) := by omega
  rw [show chkE k n a b c = (if k = 1 then (if a = b then 3 else 0) else if a || b || c then 3 else 0) by unfold chkE; rw [if_neg (fun h => h hk), if_neg hn]]
  rcases hk with rfl | rfl | rfl
  · obtain rfl := n2 rfl
    rw [if_neg (by decide)]
    by_cases hf : (a || b || c) = true
    · rw [if_pos hf]
      exact eCk0f a b c w hal hf
    · rw [if_neg hf]
      exact eCk0z a b c w hal (by simpa using hf)
  · rw [if_pos rfl]
    cases a <;> cases b
    · exact eCk1ff n c w hal n0 n1
    · exact eCk1ft n c w hal n0 n1
    · exact eCk1tf n c w hal n0 n1
    · exact eCk1tt n c w hal n0 n1
  · rw [if_neg (by decide)]
    by_cases hf : (a || b || c) = true
    · rw [if_pos hf]
      exact eCk2f n a b c w hal n0 n1 hf
    · rw [if_neg hf]
      exact eCk2z n a b c w hal n0 n1 (by simpa using hf)

theorem rCheck02_any (k n : Int) (a b c : Bool) (w : World) : Calls Tryz.prog 72 #[entV k n a b c] w fun e w' => e = .returned (.int .i64 (chkE k n a b c)) ∧ Below w.heap.size w w' := by
  by_cases hk : k = 0 ∨ k = 1 ∨ k = 2
  rotate_left
  · rw [show chkE k n a b c = 16 from if_pos hk]
    exact rCk16 k n a b c w hk
  by_cases hn : n < 0 ∨ 255 < n ∨ (k = 0 ∧ n ≠ 0)
  · rw [show chkE k n a b c = 2 by unfold chkE; rw [if_neg (fun h => h hk), if_pos hn]]
    rcases (by omega : n < 0 ∨ (0 ≤ n ∧ 255 < n) ∨ (0 ≤ n ∧ n ≤ 255 ∧ n ≠ 0 ∧ k = 0)) with h1 | ⟨h1, h2⟩ | ⟨h1, h2, h3, rfl⟩
    · rcases hk with rfl | rfl | rfl
      · exact rCk20n n a b c w h1
      · exact rCk21n n a b c w h1
      · exact rCk22n n a b c w h1
    · rcases hk with rfl | rfl | rfl
      · exact rCk20p n a b c w h2
      · exact rCk21p n a b c w h2
      · exact rCk22p n a b c w h2
    · exact rCk20z n a b c w h1 h2 h3
  obtain ⟨n0, n1, n2⟩ : 0 ≤ n ∧ n ≤ 255 ∧ (k = 0 → n = 0) := by omega
  rw [show chkE k n a b c = (if k = 1 then (if a = b then 3 else 0) else if a || b || c then 3 else 0) by unfold chkE; rw [if_neg (fun h => h hk), if_neg hn]]
  rcases hk with rfl | rfl | rfl
  · obtain rfl := n2 rfl
    rw [if_neg (by decide)]
    cases a <;> cases b <;> cases c
    · exact rCk0fff w
    · exact rCk0fft w
    · exact rCk0ftf w
    · exact rCk0ftt w
    · exact rCk0tff w
    · exact rCk0tft w
    · exact rCk0ttf w
    · exact rCk0ttt w
  · rw [if_pos rfl]
    cases a <;> cases b
    · exact rCk1ff n c w n0 n1
    · exact rCk1ft n c w n0 n1
    · exact rCk1tf n c w n0 n1
    · exact rCk1tt n c w n0 n1
  · rw [if_neg (by decide)]
    cases a <;> cases b <;> cases c
    · exact rCk2fff n w n0 n1
    · exact rCk2fft n w n0 n1
    · exact rCk2ftf n w n0 n1
    · exact rCk2ftt n w n0 n1
    · exact rCk2tff n w n0 n1
    · exact rCk2tft n w n0 n1
    · exact rCk2ttf n w n0 n1
    · exact rCk2ttt n w n0 n1
end Go.Proofs.YtmbpjafiinfkkaaGreatDoor
