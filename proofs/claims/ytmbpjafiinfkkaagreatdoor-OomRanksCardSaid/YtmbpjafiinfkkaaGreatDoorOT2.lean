/- Package reclaim: the direct step. Written by gen_ot2.py. -/
import Derived.Test.YtmbpjafiinfkkaaGreatDoorOT1
namespace Go.Proofs.YtmbpjafiinfkkaaGreatDoor
set_option linter.unusedSimpArgs false
set_option linter.unusedVariables false
open Go.RowKit Go.Maps

/-- The direct step of four answers, and of a tally. -/
def dirB (b1 b2 b3 : Bool) : Int := if b1 then 1 else if b2 then 4 else if b3 then 5 else 6
def dirT (t : TL) : Int := dirB (decide (0 < t.ob)) (wrtB t) (decide (0 < t.wr) || decide (0 < t.orp))

set_option maxRecDepth 100000 in
set_option maxHeartbeats 16000000 in
theorem first_any (TV : Value) (b1 b2 b3 : Bool) (g : Nat) (w : World) (kH : Blk w g 158 #[.int .i64 1, .func (.func 114) #[TV] #[], .int .i64 4, .func (.func 115) #[TV] #[], .int .i64 5, .func (.func 116) #[TV] #[], .int .i64 6, .func (.func 117) #[TV] #[]])
    (M1 : ∀ w, Calls Tryz.prog 114 #[TV] w fun e w' => e = .returned (.bool b1) ∧ Below w.heap.size w w') (M2 : ∀ w, Calls Tryz.prog 115 #[TV] w fun e w' => e = .returned (.bool b2) ∧ Below w.heap.size w w')
    (M3 : ∀ w, Calls Tryz.prog 116 #[TV] w fun e w' => e = .returned (.bool b3) ∧ Below w.heap.size w w') (M4 : ∀ w, Calls Tryz.prog 117 #[TV] w fun e w' => e = .returned (.bool true) ∧ Below w.heap.size w w') :
    Calls Tryz.prog 113 #[.slice (some ⟨g, 0, none⟩) 4 4] w fun e w' => e = .returned (.int .i64 (dirB b1 b2 b3)) ∧ Below w.heap.size w w' := by
  have zH := kH.lt
  obtain ⟨r, hr⟩ : ∃ r, dirB b1 b2 b3 = r := ⟨_, rfl⟩
  rw [hr]
  have HR := Lib.hid hr
  clear hr
  go_enter Tryz.func113, Tryz.ntmps113
  go_wp2
  go_loopw [7] (fun i wr => ∃ k : Int, 0 ≤ k ∧ k ≤ 3 ∧ i = .int .i64 k ∧ (0 < k → b1 = false) ∧ (1 < k → b2 = false) ∧ (2 < k → b3 = false) ∧ Below w.heap.size w wr) (fun i _ => 4 - (intOf i).toNat)
  case atStart => exact ⟨0, by omega, by omega, rfl, by omega, by omega, by omega, Below.refl _ _⟩
  case round =>
    obtain ⟨k, k0, k3, rfl, h1, h2, h3, hbw⟩ := hrel
    have kHw := kH.below_ hbw zH
    have zw := hbw.size
    have zg := kHw.lt
    obtain h | h | h | h : k = 0 ∨ k = 1 ∨ k = 2 ∨ k = 3 := by omega
    · subst h
      have q0 := kHw.cell_ 0; have q1 := kHw.cell_ 1
      simp at q0 q1
      clear k0 k3 h1 h2 h3
      by_cases hb : b1 = true
      · subst hb
        go_wp2_with (refine (M1 _).mono ?_; rintro e w2 ⟨rfl, hb2⟩; have z2 := hb2.size; simp at z2; have r0 : w2.cell? ⟨wr.heap.size, 0, none⟩ = some (.int .i64 1) := cell_keep hb2 (by simp) (by simp); have z3 : wr.heap.size < w2.heap.size := by omega)
        refine bodyPost_ret (v := .int .i64 1) (by simp [results, Tryz.results113, go_sem]) rfl ?_
        exact ⟨by rw [← HR.out]; rfl, (by repeat' (first | with_reducible exact Below.refl _ _ | with_reducible assumption | with_reducible apply Below.drew | with_reducible apply below_drewN | with_reducible apply Below.alloc | with_reducible apply Below.setCell | (with_reducible refine Below.trans ?_ (Below.mono (by assumption) ?_)) | (simp; done) | (simp; omega) | omega | with_reducible apply le_size_alloc | with_reducible apply le_size_drewN | with_reducible apply le_size_drew | with_reducible apply le_size_setCell | refine Nat.le_trans ?_ (Below.size (by assumption))))⟩
      · have hb' : b1 = false := by simpa using hb
        subst hb'
        clear hb
        go_wp2_with (refine (M1 _).mono ?_; rintro e w2 ⟨rfl, hb2⟩; have z2 := hb2.size; simp at z2; have r0 : w2.cell? ⟨wr.heap.size, 0, none⟩ = some (.int .i64 1) := cell_keep hb2 (by simp) (by simp); have z3 : wr.heap.size < w2.heap.size := by omega)
        go_roundw
        case rel => exact ⟨1, by omega, by omega, by go_num, by simp, by omega, by omega, (by repeat' (first | with_reducible exact Below.refl _ _ | with_reducible assumption | with_reducible apply Below.drew | with_reducible apply below_drewN | with_reducible apply Below.alloc | with_reducible apply Below.setCell | (with_reducible refine Below.trans ?_ (Below.mono (by assumption) ?_)) | (simp; done) | (simp; omega) | omega | with_reducible apply le_size_alloc | with_reducible apply le_size_drewN | with_reducible apply le_size_drew | with_reducible apply le_size_setCell | refine Nat.le_trans ?_ (Below.size (by assumption))))⟩
        case measure => simp [intOf]
    · subst h
      have q0 := kHw.cell_ 2; have q1 := kHw.cell_ 3
      simp at q0 q1
      obtain rfl := h1 (by omega)
      clear k0 k3 h1 h2 h3
      by_cases hb : b2 = true
      · subst hb
        go_wp2_with (refine (M2 _).mono ?_; rintro e w2 ⟨rfl, hb2⟩; have z2 := hb2.size; simp at z2; have r0 : w2.cell? ⟨wr.heap.size, 0, none⟩ = some (.int .i64 4) := cell_keep hb2 (by simp) (by simp); have z3 : wr.heap.size < w2.heap.size := by omega)
        refine bodyPost_ret (v := .int .i64 4) (by simp [results, Tryz.results113, go_sem]) rfl ?_
        exact ⟨by rw [← HR.out]; rfl, (by repeat' (first | with_reducible exact Below.refl _ _ | with_reducible assumption | with_reducible apply Below.drew | with_reducible apply below_drewN | with_reducible apply Below.alloc | with_reducible apply Below.setCell | (with_reducible refine Below.trans ?_ (Below.mono (by assumption) ?_)) | (simp; done) | (simp; omega) | omega | with_reducible apply le_size_alloc | with_reducible apply le_size_drewN | with_reducible apply le_size_drew | with_reducible apply le_size_setCell | refine Nat.le_trans ?_ (Below.size (by assumption))))⟩
      · have hb' : b2 = false := by simpa using hb
        subst hb'
        clear hb
        go_wp2_with (refine (M2 _).mono ?_; rintro e w2 ⟨rfl, hb2⟩; have z2 := hb2.size; simp at z2; have r0 : w2.cell? ⟨wr.heap.size, 0, none⟩ = some (.int .i64 4) := cell_keep hb2 (by simp) (by simp); have z3 : wr.heap.size < w2.heap.size := by omega)
        go_roundw
        case rel => exact ⟨2, by omega, by omega, by go_num, by simp, by simp, by omega, (by repeat' (first | with_reducible exact Below.refl _ _ | with_reducible assumption | with_reducible apply Below.drew | with_reducible apply below_drewN | with_reducible apply Below.alloc | with_reducible apply Below.setCell | (with_reducible refine Below.trans ?_ (Below.mono (by assumption) ?_)) | (simp; done) | (simp; omega) | omega | with_reducible apply le_size_alloc | with_reducible apply le_size_drewN | with_reducible apply le_size_drew | with_reducible apply le_size_setCell | refine Nat.le_trans ?_ (Below.size (by assumption))))⟩
        case measure => simp [intOf]
    · subst h
      have q0 := kHw.cell_ 4; have q1 := kHw.cell_ 5
      simp at q0 q1
      obtain rfl := h1 (by omega)
      obtain rfl := h2 (by omega)
      clear k0 k3 h1 h2 h3
      by_cases hb : b3 = true
      · subst hb
        go_wp2_with (refine (M3 _).mono ?_; rintro e w2 ⟨rfl, hb2⟩; have z2 := hb2.size; simp at z2; have r0 : w2.cell? ⟨wr.heap.size, 0, none⟩ = some (.int .i64 5) := cell_keep hb2 (by simp) (by simp); have z3 : wr.heap.size < w2.heap.size := by omega)
        refine bodyPost_ret (v := .int .i64 5) (by simp [results, Tryz.results113, go_sem]) rfl ?_
        exact ⟨by rw [← HR.out]; rfl, (by repeat' (first | with_reducible exact Below.refl _ _ | with_reducible assumption | with_reducible apply Below.drew | with_reducible apply below_drewN | with_reducible apply Below.alloc | with_reducible apply Below.setCell | (with_reducible refine Below.trans ?_ (Below.mono (by assumption) ?_)) | (simp; done) | (simp; omega) | omega | with_reducible apply le_size_alloc | with_reducible apply le_size_drewN | with_reducible apply le_size_drew | with_reducible apply le_size_setCell | refine Nat.le_trans ?_ (Below.size (by assumption))))⟩
      · have hb' : b3 = false := by simpa using hb
        subst hb'
        clear hb
        go_wp2_with (refine (M3 _).mono ?_; rintro e w2 ⟨rfl, hb2⟩; have z2 := hb2.size; simp at z2; have r0 : w2.cell? ⟨wr.heap.size, 0, none⟩ = some (.int .i64 5) := cell_keep hb2 (by simp) (by simp); have z3 : wr.heap.size < w2.heap.size := by omega)
        go_roundw
        case rel => exact ⟨3, by omega, by omega, by go_num, by simp, by simp, by simp, (by repeat' (first | with_reducible exact Below.refl _ _ | with_reducible assumption | with_reducible apply Below.drew | with_reducible apply below_drewN | with_reducible apply Below.alloc | with_reducible apply Below.setCell | (with_reducible refine Below.trans ?_ (Below.mono (by assumption) ?_)) | (simp; done) | (simp; omega) | omega | with_reducible apply le_size_alloc | with_reducible apply le_size_drewN | with_reducible apply le_size_drew | with_reducible apply le_size_setCell | refine Nat.le_trans ?_ (Below.size (by assumption))))⟩
        case measure => simp [intOf]
    · subst h
      have q0 := kHw.cell_ 6; have q1 := kHw.cell_ 7
      simp at q0 q1
      obtain rfl := h1 (by omega)
      obtain rfl := h2 (by omega)
      obtain rfl := h3 (by omega)
      clear k0 k3 h1 h2 h3
      · go_wp2_with (refine (M4 _).mono ?_; rintro e w2 ⟨rfl, hb2⟩; have z2 := hb2.size; simp at z2; have r0 : w2.cell? ⟨wr.heap.size, 0, none⟩ = some (.int .i64 6) := cell_keep hb2 (by simp) (by simp); have z3 : wr.heap.size < w2.heap.size := by omega)
        refine bodyPost_ret (v := .int .i64 6) (by simp [results, Tryz.results113, go_sem]) rfl ?_
        exact ⟨by rw [← HR.out]; rfl, (by repeat' (first | with_reducible exact Below.refl _ _ | with_reducible assumption | with_reducible apply Below.drew | with_reducible apply below_drewN | with_reducible apply Below.alloc | with_reducible apply Below.setCell | (with_reducible refine Below.trans ?_ (Below.mono (by assumption) ?_)) | (simp; done) | (simp; omega) | omega | with_reducible apply le_size_alloc | with_reducible apply le_size_drewN | with_reducible apply le_size_drew | with_reducible apply le_size_setCell | refine Nat.le_trans ?_ (Below.size (by assumption))))⟩

set_option maxRecDepth 100000 in
set_option maxHeartbeats 8000000 in
theorem direct_any (t : TL) (w : World) : Calls Tryz.prog 99 #[.agg (tlC t)] w fun e w' => e = .returned (.int .i64 (dirT t)) ∧ Below w.heap.size w w' := by
  have M1 := tobjects_any t; have M2 := writable_any t; have M3 := tflying_any t; have M4 := talways_any t
  have HD : Hid (dirT t = dirB (decide (0 < t.ob)) (wrtB t) (decide (0 < t.wr) || decide (0 < t.orp))) := rfl
  generalize decide (0 < t.ob) = b1 at *
  generalize wrtB t = b2 at *
  generalize (decide (0 < t.wr) || decide (0 < t.orp)) = b3 at *
  unfold tlC at *
  go_enter Tryz.func99, Tryz.ntmps99
  go_wp2_with (refine (first_any _ b1 b2 b3 _ _ (Blk.new_ (by simp) rfl) M1 M2 M3 M4).mono ?_; rintro e w1 ⟨rfl, hb1⟩)
  refine bodyPost_ret (v := .int .i64 (dirB b1 b2 b3)) (by simp [results, Tryz.results99, go_sem]) rfl ?_
  exact ⟨by rw [HD.out], (by repeat' (first | with_reducible exact Below.refl _ _ | with_reducible assumption | with_reducible apply Below.drew | with_reducible apply below_drewN | with_reducible apply Below.alloc | with_reducible apply Below.setCell | (with_reducible refine Below.trans ?_ (Below.mono (by assumption) ?_)) | (simp; done) | (simp; omega) | omega | with_reducible apply le_size_alloc | with_reducible apply le_size_drewN | with_reducible apply le_size_drew | with_reducible apply le_size_setCell | refine Nat.le_trans ?_ (Below.size (by assumption))))⟩
end Go.Proofs.YtmbpjafiinfkkaaGreatDoor
