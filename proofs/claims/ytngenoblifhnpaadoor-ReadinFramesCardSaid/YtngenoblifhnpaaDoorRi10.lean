/- Contracts of package readin: Step, Frames. Written by gen_ri10.py. -/
import Derived.Test.YtngenoblifhnpaaDoorRi9
import Derived.Deep.DeepCutAuto
namespace Go.Proofs.YtngenoblifhnpaaDoor
open Go.RowKit Go.Maps

set_option maxRecDepth 100000 in
set_option maxHeartbeats 4000000 in
theorem Step_chk (s f g e n : Int) (w : World) (h0 : chkR (s, f, g) ≠ 0) :
    Calls Tryd.prog 17 #[.agg #[.int .i64 s, .int .i64 f, .int .i64 g], .int .i64 e, .int .i64 n] w (StpPost (stpR (s, f, g) e n) w) := by
  have HE : Hid (stpR (s, f, g) e n = ((0, 0, 0), [], 0, chkR (s, f, g))) := by show _ = _; unfold stpR; rw [if_pos h0]
  obtain ⟨z, hz⟩ : ∃ z, chkR (s, f, g) = z := ⟨_, rfl⟩
  rw [hz] at h0 HE
  have nz : (z != 0) = true := by simpa using h0
  have HZ := Lib.hid hz
  clear hz h0
  go_enter Tryd.func17, Tryd.ntmps17
  go_wp2_with fail
  refine (Check_any s f g _ HZ.out).mono ?_
  rintro e w1 ⟨rfl, hb1⟩
  have qw10 : w1.cell? ⟨w.heap.size, 0, none⟩ = some (.int .i64 s) := cell_keep hb1 (by simp) (by first | (simp; done) | (simp; omega))
  have qw11 : w1.cell? ⟨w.heap.size, 1, none⟩ = some (.int .i64 f) := cell_keep hb1 (by simp) (by first | (simp; done) | (simp; omega))
  have qw12 : w1.cell? ⟨w.heap.size, 2, none⟩ = some (.int .i64 g) := cell_keep hb1 (by simp) (by first | (simp; done) | (simp; omega))
  have yw10 : w1.cell? ⟨w.heap.size + 1, 0, none⟩ = some (.int .i64 0) := cell_keep hb1 (by simp) (by first | (simp; done) | (simp; omega))
  have yw11 : w1.cell? ⟨w.heap.size + 1, 1, none⟩ = some (.int .i64 0) := cell_keep hb1 (by simp) (by first | (simp; done) | (simp; omega))
  have yw12 : w1.cell? ⟨w.heap.size + 1, 2, none⟩ = some (.int .i64 0) := cell_keep hb1 (by simp) (by first | (simp; done) | (simp; omega))
  have fw10 : w1.frozen? ⟨w.heap.size + 1, 0, none⟩ = false := frozen_keep hb1 (by simp) (by first | (simp; done) | (simp; omega))
  have fw11 : w1.frozen? ⟨w.heap.size + 1, 1, none⟩ = false := frozen_keep hb1 (by simp) (by first | (simp; done) | (simp; omega))
  have fw12 : w1.frozen? ⟨w.heap.size + 1, 2, none⟩ = false := frozen_keep hb1 (by simp) (by first | (simp; done) | (simp; omega))
  go_wp2_with fail
  refine bodyPost_ret (v := .tuple #[.agg #[.int .i64 0, .int .i64 0, .int .i64 0], .slice none 0 0, .int .i64 0, .int .i64 z]) (by simp [results, Tryd.results17, go_sem, yw10, yw11, yw12, fw10, fw11, fw12]) rfl ?_
  unfold StpPost
  rw [HE.out]
  exact ⟨none, 0, rfl, IWn.nil, (by repeat' (first | with_reducible exact Below.refl _ _ | with_reducible assumption | with_reducible apply Below.drew | with_reducible apply below_drewN | with_reducible apply Below.alloc | with_reducible apply Below.setCell | (with_reducible refine Below.trans ?_ (Below.mono (by assumption) ?_)) | (simp; done) | (simp; omega) | omega | with_reducible apply le_size_alloc | with_reducible apply le_size_drewN | with_reducible apply le_size_drew | with_reducible apply le_size_setCell | refine Nat.le_trans ?_ (Below.size (by assumption))))⟩
set_option maxRecDepth 100000 in
set_option maxHeartbeats 4000000 in
theorem Step_kinda (s f g e n : Int) (w : World) (h0 : chkR (s, f, g) = 0) (h1 : e < 1) :
    Calls Tryd.prog 17 #[.agg #[.int .i64 s, .int .i64 f, .int .i64 g], .int .i64 e, .int .i64 n] w (StpPost (stpR (s, f, g) e n) w) := by
  have HE : Hid (stpR (s, f, g) e n = ((0, 0, 0), [], 0, 16)) := by show _ = _; unfold stpR; rw [if_neg (by rw [h0]; simp), if_pos (by omega)]
  have HZ := Lib.hid h0
  clear h0
  have e1 : e < 1 := h1
  go_enter Tryd.func17, Tryd.ntmps17
  go_wp2_with fail
  refine (Check_any s f g _ HZ.out).mono ?_
  rintro e w1 ⟨rfl, hb1⟩
  have qw10 : w1.cell? ⟨w.heap.size, 0, none⟩ = some (.int .i64 s) := cell_keep hb1 (by simp) (by first | (simp; done) | (simp; omega))
  have qw11 : w1.cell? ⟨w.heap.size, 1, none⟩ = some (.int .i64 f) := cell_keep hb1 (by simp) (by first | (simp; done) | (simp; omega))
  have qw12 : w1.cell? ⟨w.heap.size, 2, none⟩ = some (.int .i64 g) := cell_keep hb1 (by simp) (by first | (simp; done) | (simp; omega))
  have yw10 : w1.cell? ⟨w.heap.size + 1, 0, none⟩ = some (.int .i64 0) := cell_keep hb1 (by simp) (by first | (simp; done) | (simp; omega))
  have yw11 : w1.cell? ⟨w.heap.size + 1, 1, none⟩ = some (.int .i64 0) := cell_keep hb1 (by simp) (by first | (simp; done) | (simp; omega))
  have yw12 : w1.cell? ⟨w.heap.size + 1, 2, none⟩ = some (.int .i64 0) := cell_keep hb1 (by simp) (by first | (simp; done) | (simp; omega))
  have fw10 : w1.frozen? ⟨w.heap.size + 1, 0, none⟩ = false := frozen_keep hb1 (by simp) (by first | (simp; done) | (simp; omega))
  have fw11 : w1.frozen? ⟨w.heap.size + 1, 1, none⟩ = false := frozen_keep hb1 (by simp) (by first | (simp; done) | (simp; omega))
  have fw12 : w1.frozen? ⟨w.heap.size + 1, 2, none⟩ = false := frozen_keep hb1 (by simp) (by first | (simp; done) | (simp; omega))
  go_wp2_with fail
  refine bodyPost_ret (v := .tuple #[.agg #[.int .i64 0, .int .i64 0, .int .i64 0], .slice none 0 0, .int .i64 0, .int .i64 16]) (by simp [results, Tryd.results17, go_sem, yw10, yw11, yw12, fw10, fw11, fw12]) rfl ?_
  unfold StpPost
  rw [HE.out]
  exact ⟨none, 0, rfl, IWn.nil, (by repeat' (first | with_reducible exact Below.refl _ _ | with_reducible assumption | with_reducible apply Below.drew | with_reducible apply below_drewN | with_reducible apply Below.alloc | with_reducible apply Below.setCell | (with_reducible refine Below.trans ?_ (Below.mono (by assumption) ?_)) | (simp; done) | (simp; omega) | omega | with_reducible apply le_size_alloc | with_reducible apply le_size_drewN | with_reducible apply le_size_drew | with_reducible apply le_size_setCell | refine Nat.le_trans ?_ (Below.size (by assumption))))⟩
set_option maxRecDepth 100000 in
set_option maxHeartbeats 4000000 in
theorem Step_kindb (s f g e n : Int) (w : World) (h0 : chkR (s, f, g) = 0) (h1 : 6 < e) :
    Calls Tryd.prog 17 #[.agg #[.int .i64 s, .int .i64 f, .int .i64 g], .int .i64 e, .int .i64 n] w (StpPost (stpR (s, f, g) e n) w) := by
  have HE : Hid (stpR (s, f, g) e n = ((0, 0, 0), [], 0, 16)) := by show _ = _; unfold stpR; rw [if_neg (by rw [h0]; simp), if_pos (by omega)]
  have HZ := Lib.hid h0
  clear h0
  have e1 : ¬ e < 1 := by omega
  have e6 : ¬ e ≤ 6 := by omega
  go_enter Tryd.func17, Tryd.ntmps17
  go_wp2_with fail
  refine (Check_any s f g _ HZ.out).mono ?_
  rintro e w1 ⟨rfl, hb1⟩
  have qw10 : w1.cell? ⟨w.heap.size, 0, none⟩ = some (.int .i64 s) := cell_keep hb1 (by simp) (by first | (simp; done) | (simp; omega))
  have qw11 : w1.cell? ⟨w.heap.size, 1, none⟩ = some (.int .i64 f) := cell_keep hb1 (by simp) (by first | (simp; done) | (simp; omega))
  have qw12 : w1.cell? ⟨w.heap.size, 2, none⟩ = some (.int .i64 g) := cell_keep hb1 (by simp) (by first | (simp; done) | (simp; omega))
  have yw10 : w1.cell? ⟨w.heap.size + 1, 0, none⟩ = some (.int .i64 0) := cell_keep hb1 (by simp) (by first | (simp; done) | (simp; omega))
  have yw11 : w1.cell? ⟨w.heap.size + 1, 1, none⟩ = some (.int .i64 0) := cell_keep hb1 (by simp) (by first | (simp; done) | (simp; omega))
  have yw12 : w1.cell? ⟨w.heap.size + 1, 2, none⟩ = some (.int .i64 0) := cell_keep hb1 (by simp) (by first | (simp; done) | (simp; omega))
  have fw10 : w1.frozen? ⟨w.heap.size + 1, 0, none⟩ = false := frozen_keep hb1 (by simp) (by first | (simp; done) | (simp; omega))
  have fw11 : w1.frozen? ⟨w.heap.size + 1, 1, none⟩ = false := frozen_keep hb1 (by simp) (by first | (simp; done) | (simp; omega))
  have fw12 : w1.frozen? ⟨w.heap.size + 1, 2, none⟩ = false := frozen_keep hb1 (by simp) (by first | (simp; done) | (simp; omega))
  go_wp2_with fail
  refine bodyPost_ret (v := .tuple #[.agg #[.int .i64 0, .int .i64 0, .int .i64 0], .slice none 0 0, .int .i64 0, .int .i64 16]) (by simp [results, Tryd.results17, go_sem, yw10, yw11, yw12, fw10, fw11, fw12]) rfl ?_
  unfold StpPost
  rw [HE.out]
  exact ⟨none, 0, rfl, IWn.nil, (by repeat' (first | with_reducible exact Below.refl _ _ | with_reducible assumption | with_reducible apply Below.drew | with_reducible apply below_drewN | with_reducible apply Below.alloc | with_reducible apply Below.setCell | (with_reducible refine Below.trans ?_ (Below.mono (by assumption) ?_)) | (simp; done) | (simp; omega) | omega | with_reducible apply le_size_alloc | with_reducible apply le_size_drewN | with_reducible apply le_size_drew | with_reducible apply le_size_setCell | refine Nat.le_trans ?_ (Below.size (by assumption))))⟩
set_option maxRecDepth 100000 in
set_option maxHeartbeats 4000000 in
theorem Step_range1 (s f g e n : Int) (w : World) (h0 : chkR (s, f, g) = 0) (h1 : e = 1) (hd : decide (0 ≤ n ∧ n < 256) = false) :
    Calls Tryd.prog 17 #[.agg #[.int .i64 s, .int .i64 f, .int .i64 g], .int .i64 e, .int .i64 n] w (StpPost (stpR (s, f, g) e n) w) := by
  have HE : Hid (stpR (s, f, g) e n = ((0, 0, 0), [], 0, 2)) := by show _ = _; unfold stpR; rw [if_neg (by rw [h0]; simp), if_neg (by omega), if_pos (by exact Or.inl ⟨h1, of_decide_eq_false hd⟩)]
  have HZ := Lib.hid h0
  clear h0
  have HE1 := Lib.hid h1
  subst h1
  go_enter Tryd.func17, Tryd.ntmps17
  go_wp2_with fail
  refine (Check_any s f g _ HZ.out).mono ?_
  rintro e w1 ⟨rfl, hb1⟩
  have qw10 : w1.cell? ⟨w.heap.size, 0, none⟩ = some (.int .i64 s) := cell_keep hb1 (by simp) (by first | (simp; done) | (simp; omega))
  have qw11 : w1.cell? ⟨w.heap.size, 1, none⟩ = some (.int .i64 f) := cell_keep hb1 (by simp) (by first | (simp; done) | (simp; omega))
  have qw12 : w1.cell? ⟨w.heap.size, 2, none⟩ = some (.int .i64 g) := cell_keep hb1 (by simp) (by first | (simp; done) | (simp; omega))
  have yw10 : w1.cell? ⟨w.heap.size + 1, 0, none⟩ = some (.int .i64 0) := cell_keep hb1 (by simp) (by first | (simp; done) | (simp; omega))
  have yw11 : w1.cell? ⟨w.heap.size + 1, 1, none⟩ = some (.int .i64 0) := cell_keep hb1 (by simp) (by first | (simp; done) | (simp; omega))
  have yw12 : w1.cell? ⟨w.heap.size + 1, 2, none⟩ = some (.int .i64 0) := cell_keep hb1 (by simp) (by first | (simp; done) | (simp; omega))
  have fw10 : w1.frozen? ⟨w.heap.size + 1, 0, none⟩ = false := frozen_keep hb1 (by simp) (by first | (simp; done) | (simp; omega))
  have fw11 : w1.frozen? ⟨w.heap.size + 1, 1, none⟩ = false := frozen_keep hb1 (by simp) (by first | (simp; done) | (simp; omega))
  have fw12 : w1.frozen? ⟨w.heap.size + 1, 2, none⟩ = false := frozen_keep hb1 (by simp) (by first | (simp; done) | (simp; omega))
  go_wp2_with (first | (go_at_call 35; with_reducible refine (isFrame_b n _ hd _).mono ?_; rintro e w2 ⟨rfl, rfl⟩))
  refine bodyPost_ret (v := .tuple #[.agg #[.int .i64 0, .int .i64 0, .int .i64 0], .slice none 0 0, .int .i64 0, .int .i64 2]) (by simp [results, Tryd.results17, go_sem, yw10, yw11, yw12, fw10, fw11, fw12]) rfl ?_
  unfold StpPost
  rw [HE.out]
  exact ⟨none, 0, rfl, IWn.nil, (by repeat' (first | with_reducible exact Below.refl _ _ | with_reducible assumption | with_reducible apply Below.drew | with_reducible apply below_drewN | with_reducible apply Below.alloc | with_reducible apply Below.setCell | (with_reducible refine Below.trans ?_ (Below.mono (by assumption) ?_)) | (simp; done) | (simp; omega) | omega | with_reducible apply le_size_alloc | with_reducible apply le_size_drewN | with_reducible apply le_size_drew | with_reducible apply le_size_setCell | refine Nat.le_trans ?_ (Below.size (by assumption))))⟩
set_option maxRecDepth 100000 in
set_option maxHeartbeats 4000000 in
theorem Step_range2 (s f g e n : Int) (w : World) (h0 : chkR (s, f, g) = 0) (h1 : 2 ≤ e) (h6 : e ≤ 6) (hn : n ≠ -1) :
    Calls Tryd.prog 17 #[.agg #[.int .i64 s, .int .i64 f, .int .i64 g], .int .i64 e, .int .i64 n] w (StpPost (stpR (s, f, g) e n) w) := by
  have HE : Hid (stpR (s, f, g) e n = ((0, 0, 0), [], 0, 2)) := by show _ = _; unfold stpR; rw [if_neg (by rw [h0]; simp), if_neg (by omega), if_pos (by exact Or.inr ⟨by omega, hn⟩)]
  have HZ := Lib.hid h0
  clear h0
  have e1 : (e == 1) = false := by simp; omega
  have e2 : (e != 1) = true := by simp; omega
  have n1 : (n != -1) = true := by simpa using hn
  have a1 : ¬ e < 1 := by omega
  go_enter Tryd.func17, Tryd.ntmps17
  go_wp2_with fail
  refine (Check_any s f g _ HZ.out).mono ?_
  rintro e w1 ⟨rfl, hb1⟩
  have qw10 : w1.cell? ⟨w.heap.size, 0, none⟩ = some (.int .i64 s) := cell_keep hb1 (by simp) (by first | (simp; done) | (simp; omega))
  have qw11 : w1.cell? ⟨w.heap.size, 1, none⟩ = some (.int .i64 f) := cell_keep hb1 (by simp) (by first | (simp; done) | (simp; omega))
  have qw12 : w1.cell? ⟨w.heap.size, 2, none⟩ = some (.int .i64 g) := cell_keep hb1 (by simp) (by first | (simp; done) | (simp; omega))
  have yw10 : w1.cell? ⟨w.heap.size + 1, 0, none⟩ = some (.int .i64 0) := cell_keep hb1 (by simp) (by first | (simp; done) | (simp; omega))
  have yw11 : w1.cell? ⟨w.heap.size + 1, 1, none⟩ = some (.int .i64 0) := cell_keep hb1 (by simp) (by first | (simp; done) | (simp; omega))
  have yw12 : w1.cell? ⟨w.heap.size + 1, 2, none⟩ = some (.int .i64 0) := cell_keep hb1 (by simp) (by first | (simp; done) | (simp; omega))
  have fw10 : w1.frozen? ⟨w.heap.size + 1, 0, none⟩ = false := frozen_keep hb1 (by simp) (by first | (simp; done) | (simp; omega))
  have fw11 : w1.frozen? ⟨w.heap.size + 1, 1, none⟩ = false := frozen_keep hb1 (by simp) (by first | (simp; done) | (simp; omega))
  have fw12 : w1.frozen? ⟨w.heap.size + 1, 2, none⟩ = false := frozen_keep hb1 (by simp) (by first | (simp; done) | (simp; omega))
  go_wp2_with fail
  refine bodyPost_ret (v := .tuple #[.agg #[.int .i64 0, .int .i64 0, .int .i64 0], .slice none 0 0, .int .i64 0, .int .i64 2]) (by simp [results, Tryd.results17, go_sem, yw10, yw11, yw12, fw10, fw11, fw12]) rfl ?_
  unfold StpPost
  rw [HE.out]
  exact ⟨none, 0, rfl, IWn.nil, (by repeat' (first | with_reducible exact Below.refl _ _ | with_reducible assumption | with_reducible apply Below.drew | with_reducible apply below_drewN | with_reducible apply Below.alloc | with_reducible apply Below.setCell | (with_reducible refine Below.trans ?_ (Below.mono (by assumption) ?_)) | (simp; done) | (simp; omega) | omega | with_reducible apply le_size_alloc | with_reducible apply le_size_drewN | with_reducible apply le_size_drew | with_reducible apply le_size_setCell | refine Nat.le_trans ?_ (Below.size (by assumption))))⟩
set_option maxRecDepth 100000 in
set_option maxHeartbeats 4000000 in
theorem Step_f_no (s f g e n : Int) (w : World) (hal : AL w) (h0 : chkR (s, f, g) = 0) (he : e = 1) (hd : decide (0 ≤ n ∧ n < 256) = true) (hc : canR (s, f, g) e = false) :
    Calls Tryd.prog 17 #[.agg #[.int .i64 s, .int .i64 f, .int .i64 g], .int .i64 e, .int .i64 n] w (StpPost (stpR (s, f, g) e n) w) := by
  have HE : Hid (stpR (s, f, g) e n = ((0, 0, 0), [], 0, 9)) := by show _ = _; unfold stpR; rw [if_neg (by rw [h0]; simp), if_neg (by rw [he]; decide), if_neg (by rw [he]; simp; have := of_decide_eq_true hd; omega), if_pos hc]
  obtain ⟨h1, h8⟩ := chk_state h0
  have HZ := Lib.hid h0
  have HAL := Lib.hid hal
  clear h0 hal
  subst he
  have HC := Lib.hid hc
  clear hc
  go_enter Tryd.func17, Tryd.ntmps17
  go_wp2_with fail
  refine (Check_any s f g _ HZ.out).mono ?_
  rintro e w1 ⟨rfl, hb1⟩
  have qw10 : w1.cell? ⟨w.heap.size, 0, none⟩ = some (.int .i64 s) := cell_keep hb1 (by simp) (by first | (simp; done) | (simp; omega))
  have qw11 : w1.cell? ⟨w.heap.size, 1, none⟩ = some (.int .i64 f) := cell_keep hb1 (by simp) (by first | (simp; done) | (simp; omega))
  have qw12 : w1.cell? ⟨w.heap.size, 2, none⟩ = some (.int .i64 g) := cell_keep hb1 (by simp) (by first | (simp; done) | (simp; omega))
  have yw10 : w1.cell? ⟨w.heap.size + 1, 0, none⟩ = some (.int .i64 0) := cell_keep hb1 (by simp) (by first | (simp; done) | (simp; omega))
  have yw11 : w1.cell? ⟨w.heap.size + 1, 1, none⟩ = some (.int .i64 0) := cell_keep hb1 (by simp) (by first | (simp; done) | (simp; omega))
  have yw12 : w1.cell? ⟨w.heap.size + 1, 2, none⟩ = some (.int .i64 0) := cell_keep hb1 (by simp) (by first | (simp; done) | (simp; omega))
  have fw10 : w1.frozen? ⟨w.heap.size + 1, 0, none⟩ = false := frozen_keep hb1 (by simp) (by first | (simp; done) | (simp; omega))
  have fw11 : w1.frozen? ⟨w.heap.size + 1, 1, none⟩ = false := frozen_keep hb1 (by simp) (by first | (simp; done) | (simp; omega))
  have fw12 : w1.frozen? ⟨w.heap.size + 1, 2, none⟩ = false := frozen_keep hb1 (by simp) (by first | (simp; done) | (simp; omega))
  go_wp2_with (first | (go_at_call 35; with_reducible refine (isFrame_b n _ hd _).mono ?_; rintro e w2 ⟨rfl, rfl⟩))
  have hb1' : Below (w.heap.size + 1 + 1) ((w.alloc (.cells #[.int .i64 s, .int .i64 f, .int .i64 g] 23)).alloc (.cells #[.int .i64 0, .int .i64 0, .int .i64 0] 23)) w1 := by simpa using hb1
  refine (can_any s f g _ _ (HAL.out.ext (by repeat' (first | with_reducible exact Below.refl _ _ | with_reducible assumption | with_reducible apply Below.drew | with_reducible apply below_drewN | with_reducible apply Below.alloc | with_reducible apply Below.setCell | (with_reducible refine Below.trans ?_ (Below.mono (by assumption) ?_)) | (simp; done) | (simp; omega) | omega | with_reducible apply le_size_alloc | with_reducible apply le_size_drewN | with_reducible apply le_size_drew | with_reducible apply le_size_setCell | refine Nat.le_trans ?_ (Below.size (by assumption))))) h1 h8 (by omega) (by omega)).mono ?_
  rintro er w3 ⟨rfl, hb3⟩
  have hb3' : Below (w.heap.size + 1 + 1) ((w.alloc (.cells #[.int .i64 s, .int .i64 f, .int .i64 g] 23)).alloc (.cells #[.int .i64 0, .int .i64 0, .int .i64 0] 23)) w3 := hb1'.trans (hb3.mono (by have := hb1'.size; simpa using this))
  have qw30 : w3.cell? ⟨w.heap.size, 0, none⟩ = some (.int .i64 s) := cell_keep hb3' (by simp) (by first | (simp; done) | (simp; omega))
  have qw31 : w3.cell? ⟨w.heap.size, 1, none⟩ = some (.int .i64 f) := cell_keep hb3' (by simp) (by first | (simp; done) | (simp; omega))
  have qw32 : w3.cell? ⟨w.heap.size, 2, none⟩ = some (.int .i64 g) := cell_keep hb3' (by simp) (by first | (simp; done) | (simp; omega))
  have yw30 : w3.cell? ⟨w.heap.size + 1, 0, none⟩ = some (.int .i64 0) := cell_keep hb3' (by simp) (by first | (simp; done) | (simp; omega))
  have yw31 : w3.cell? ⟨w.heap.size + 1, 1, none⟩ = some (.int .i64 0) := cell_keep hb3' (by simp) (by first | (simp; done) | (simp; omega))
  have yw32 : w3.cell? ⟨w.heap.size + 1, 2, none⟩ = some (.int .i64 0) := cell_keep hb3' (by simp) (by first | (simp; done) | (simp; omega))
  have fw30 : w3.frozen? ⟨w.heap.size + 1, 0, none⟩ = false := frozen_keep hb3' (by simp) (by first | (simp; done) | (simp; omega))
  have fw31 : w3.frozen? ⟨w.heap.size + 1, 1, none⟩ = false := frozen_keep hb3' (by simp) (by first | (simp; done) | (simp; omega))
  have fw32 : w3.frozen? ⟨w.heap.size + 1, 2, none⟩ = false := frozen_keep hb3' (by simp) (by first | (simp; done) | (simp; omega))
  rw [HC.out]
  go_wp2_with fail
  refine bodyPost_ret (v := .tuple #[.agg #[.int .i64 0, .int .i64 0, .int .i64 0], .slice none 0 0, .int .i64 0, .int .i64 9]) (by simp [results, Tryd.results17, go_sem, yw30, yw31, yw32, fw30, fw31, fw32]) rfl ?_
  unfold StpPost
  rw [HE.out]
  exact ⟨none, 0, rfl, IWn.nil, (by repeat' (first | with_reducible exact Below.refl _ _ | with_reducible assumption | with_reducible apply Below.drew | with_reducible apply below_drewN | with_reducible apply Below.alloc | with_reducible apply Below.setCell | (with_reducible refine Below.trans ?_ (Below.mono (by assumption) ?_)) | (simp; done) | (simp; omega) | omega | with_reducible apply le_size_alloc | with_reducible apply le_size_drewN | with_reducible apply le_size_drew | with_reducible apply le_size_setCell | refine Nat.le_trans ?_ (Below.size (by assumption))))⟩
set_option maxRecDepth 100000 in
set_option maxHeartbeats 4000000 in
theorem Step_f_has (s f g e n : Int) (w : World) (hal : AL w) (h0 : chkR (s, f, g) = 0) (he : e = 1) (hd : decide (0 ≤ n ∧ n < 256) = true) (hc : canR (s, f, g) e = true) (hg : n = g) :
    Calls Tryd.prog 17 #[.agg #[.int .i64 s, .int .i64 f, .int .i64 g], .int .i64 e, .int .i64 n] w (StpPost (stpR (s, f, g) e n) w) := by
  have HE : Hid (stpR (s, f, g) e n = ((0, 0, 0), [], 0, 7)) := by show _ = _; unfold stpR; rw [if_neg (by rw [h0]; simp), if_neg (by rw [he]; decide), if_neg (by rw [he]; simp; have := of_decide_eq_true hd; omega), if_neg (by rw [hc]; simp), if_pos ⟨he, hg⟩]
  obtain ⟨h1, h8⟩ := chk_state h0
  have HZ := Lib.hid h0
  have HAL := Lib.hid hal
  clear h0 hal
  subst he
  have HC := Lib.hid hc
  have hgb : (n == g) = true := by simpa using hg
  clear hc
  have HG := Lib.hid hg
  clear hg
  go_enter Tryd.func17, Tryd.ntmps17
  go_wp2_with fail
  refine (Check_any s f g _ HZ.out).mono ?_
  rintro e w1 ⟨rfl, hb1⟩
  have qw10 : w1.cell? ⟨w.heap.size, 0, none⟩ = some (.int .i64 s) := cell_keep hb1 (by simp) (by first | (simp; done) | (simp; omega))
  have qw11 : w1.cell? ⟨w.heap.size, 1, none⟩ = some (.int .i64 f) := cell_keep hb1 (by simp) (by first | (simp; done) | (simp; omega))
  have qw12 : w1.cell? ⟨w.heap.size, 2, none⟩ = some (.int .i64 g) := cell_keep hb1 (by simp) (by first | (simp; done) | (simp; omega))
  have yw10 : w1.cell? ⟨w.heap.size + 1, 0, none⟩ = some (.int .i64 0) := cell_keep hb1 (by simp) (by first | (simp; done) | (simp; omega))
  have yw11 : w1.cell? ⟨w.heap.size + 1, 1, none⟩ = some (.int .i64 0) := cell_keep hb1 (by simp) (by first | (simp; done) | (simp; omega))
  have yw12 : w1.cell? ⟨w.heap.size + 1, 2, none⟩ = some (.int .i64 0) := cell_keep hb1 (by simp) (by first | (simp; done) | (simp; omega))
  have fw10 : w1.frozen? ⟨w.heap.size + 1, 0, none⟩ = false := frozen_keep hb1 (by simp) (by first | (simp; done) | (simp; omega))
  have fw11 : w1.frozen? ⟨w.heap.size + 1, 1, none⟩ = false := frozen_keep hb1 (by simp) (by first | (simp; done) | (simp; omega))
  have fw12 : w1.frozen? ⟨w.heap.size + 1, 2, none⟩ = false := frozen_keep hb1 (by simp) (by first | (simp; done) | (simp; omega))
  go_wp2_with (first | (go_at_call 35; with_reducible refine (isFrame_b n _ hd _).mono ?_; rintro e w2 ⟨rfl, rfl⟩))
  have hb1' : Below (w.heap.size + 1 + 1) ((w.alloc (.cells #[.int .i64 s, .int .i64 f, .int .i64 g] 23)).alloc (.cells #[.int .i64 0, .int .i64 0, .int .i64 0] 23)) w1 := by simpa using hb1
  refine (can_any s f g _ _ (HAL.out.ext (by repeat' (first | with_reducible exact Below.refl _ _ | with_reducible assumption | with_reducible apply Below.drew | with_reducible apply below_drewN | with_reducible apply Below.alloc | with_reducible apply Below.setCell | (with_reducible refine Below.trans ?_ (Below.mono (by assumption) ?_)) | (simp; done) | (simp; omega) | omega | with_reducible apply le_size_alloc | with_reducible apply le_size_drewN | with_reducible apply le_size_drew | with_reducible apply le_size_setCell | refine Nat.le_trans ?_ (Below.size (by assumption))))) h1 h8 (by omega) (by omega)).mono ?_
  rintro er w3 ⟨rfl, hb3⟩
  have hb3' : Below (w.heap.size + 1 + 1) ((w.alloc (.cells #[.int .i64 s, .int .i64 f, .int .i64 g] 23)).alloc (.cells #[.int .i64 0, .int .i64 0, .int .i64 0] 23)) w3 := hb1'.trans (hb3.mono (by have := hb1'.size; simpa using this))
  have qw30 : w3.cell? ⟨w.heap.size, 0, none⟩ = some (.int .i64 s) := cell_keep hb3' (by simp) (by first | (simp; done) | (simp; omega))
  have qw31 : w3.cell? ⟨w.heap.size, 1, none⟩ = some (.int .i64 f) := cell_keep hb3' (by simp) (by first | (simp; done) | (simp; omega))
  have qw32 : w3.cell? ⟨w.heap.size, 2, none⟩ = some (.int .i64 g) := cell_keep hb3' (by simp) (by first | (simp; done) | (simp; omega))
  have yw30 : w3.cell? ⟨w.heap.size + 1, 0, none⟩ = some (.int .i64 0) := cell_keep hb3' (by simp) (by first | (simp; done) | (simp; omega))
  have yw31 : w3.cell? ⟨w.heap.size + 1, 1, none⟩ = some (.int .i64 0) := cell_keep hb3' (by simp) (by first | (simp; done) | (simp; omega))
  have yw32 : w3.cell? ⟨w.heap.size + 1, 2, none⟩ = some (.int .i64 0) := cell_keep hb3' (by simp) (by first | (simp; done) | (simp; omega))
  have fw30 : w3.frozen? ⟨w.heap.size + 1, 0, none⟩ = false := frozen_keep hb3' (by simp) (by first | (simp; done) | (simp; omega))
  have fw31 : w3.frozen? ⟨w.heap.size + 1, 1, none⟩ = false := frozen_keep hb3' (by simp) (by first | (simp; done) | (simp; omega))
  have fw32 : w3.frozen? ⟨w.heap.size + 1, 2, none⟩ = false := frozen_keep hb3' (by simp) (by first | (simp; done) | (simp; omega))
  rw [HC.out]
  go_wp2_with fail
  refine bodyPost_ret (v := .tuple #[.agg #[.int .i64 0, .int .i64 0, .int .i64 0], .slice none 0 0, .int .i64 0, .int .i64 7]) (by simp [results, Tryd.results17, go_sem, yw30, yw31, yw32, fw30, fw31, fw32]) rfl ?_
  unfold StpPost
  rw [HE.out]
  exact ⟨none, 0, rfl, IWn.nil, (by repeat' (first | with_reducible exact Below.refl _ _ | with_reducible assumption | with_reducible apply Below.drew | with_reducible apply below_drewN | with_reducible apply Below.alloc | with_reducible apply Below.setCell | (with_reducible refine Below.trans ?_ (Below.mono (by assumption) ?_)) | (simp; done) | (simp; omega) | omega | with_reducible apply le_size_alloc | with_reducible apply le_size_drewN | with_reducible apply le_size_drew | with_reducible apply le_size_setCell | refine Nat.le_trans ?_ (Below.size (by assumption))))⟩
set_option maxRecDepth 100000 in
set_option maxHeartbeats 4000000 in
theorem Step_f_yes (s f g e n : Int) (w : World) (hal : AL w) (h0 : chkR (s, f, g) = 0) (he : e = 1) (hd : decide (0 ≤ n ∧ n < 256) = true) (hc : canR (s, f, g) e = true) (hg : n ≠ g) :
    Calls Tryd.prog 17 #[.agg #[.int .i64 s, .int .i64 f, .int .i64 g], .int .i64 e, .int .i64 n] w (StpPost (stpR (s, f, g) e n) w) := by
  have HE : Hid (stpR (s, f, g) e n = ((aftR (s, f, g) e n).1, (aftR (s, f, g) e n).2.1, (aftR (s, f, g) e n).2.2, 0)) := by show _ = _; unfold stpR; rw [if_neg (by rw [h0]; simp), if_neg (by rw [he]; decide), if_neg (by rw [he]; simp; have := of_decide_eq_true hd; omega), if_neg (by rw [hc]; simp), if_neg (by exact fun h => hg h.2)]
  obtain ⟨h1, h8⟩ := chk_state h0
  have HZ := Lib.hid h0
  have HAL := Lib.hid hal
  clear h0 hal
  subst he
  have HC := Lib.hid hc
  clear hc
  have hgb : (n == g) = false := by simpa using hg
  go_enter Tryd.func17, Tryd.ntmps17
  go_wp2_with fail
  refine (Check_any s f g _ HZ.out).mono ?_
  rintro e w1 ⟨rfl, hb1⟩
  have qw10 : w1.cell? ⟨w.heap.size, 0, none⟩ = some (.int .i64 s) := cell_keep hb1 (by simp) (by first | (simp; done) | (simp; omega))
  have qw11 : w1.cell? ⟨w.heap.size, 1, none⟩ = some (.int .i64 f) := cell_keep hb1 (by simp) (by first | (simp; done) | (simp; omega))
  have qw12 : w1.cell? ⟨w.heap.size, 2, none⟩ = some (.int .i64 g) := cell_keep hb1 (by simp) (by first | (simp; done) | (simp; omega))
  have yw10 : w1.cell? ⟨w.heap.size + 1, 0, none⟩ = some (.int .i64 0) := cell_keep hb1 (by simp) (by first | (simp; done) | (simp; omega))
  have yw11 : w1.cell? ⟨w.heap.size + 1, 1, none⟩ = some (.int .i64 0) := cell_keep hb1 (by simp) (by first | (simp; done) | (simp; omega))
  have yw12 : w1.cell? ⟨w.heap.size + 1, 2, none⟩ = some (.int .i64 0) := cell_keep hb1 (by simp) (by first | (simp; done) | (simp; omega))
  have fw10 : w1.frozen? ⟨w.heap.size + 1, 0, none⟩ = false := frozen_keep hb1 (by simp) (by first | (simp; done) | (simp; omega))
  have fw11 : w1.frozen? ⟨w.heap.size + 1, 1, none⟩ = false := frozen_keep hb1 (by simp) (by first | (simp; done) | (simp; omega))
  have fw12 : w1.frozen? ⟨w.heap.size + 1, 2, none⟩ = false := frozen_keep hb1 (by simp) (by first | (simp; done) | (simp; omega))
  go_wp2_with (first | (go_at_call 35; with_reducible refine (isFrame_b n _ hd _).mono ?_; rintro e w2 ⟨rfl, rfl⟩))
  have hb1' : Below (w.heap.size + 1 + 1) ((w.alloc (.cells #[.int .i64 s, .int .i64 f, .int .i64 g] 23)).alloc (.cells #[.int .i64 0, .int .i64 0, .int .i64 0] 23)) w1 := by simpa using hb1
  refine (can_any s f g _ _ (HAL.out.ext (by repeat' (first | with_reducible exact Below.refl _ _ | with_reducible assumption | with_reducible apply Below.drew | with_reducible apply below_drewN | with_reducible apply Below.alloc | with_reducible apply Below.setCell | (with_reducible refine Below.trans ?_ (Below.mono (by assumption) ?_)) | (simp; done) | (simp; omega) | omega | with_reducible apply le_size_alloc | with_reducible apply le_size_drewN | with_reducible apply le_size_drew | with_reducible apply le_size_setCell | refine Nat.le_trans ?_ (Below.size (by assumption))))) h1 h8 (by omega) (by omega)).mono ?_
  rintro er w3 ⟨rfl, hb3⟩
  have hb3' : Below (w.heap.size + 1 + 1) ((w.alloc (.cells #[.int .i64 s, .int .i64 f, .int .i64 g] 23)).alloc (.cells #[.int .i64 0, .int .i64 0, .int .i64 0] 23)) w3 := hb1'.trans (hb3.mono (by have := hb1'.size; simpa using this))
  have qw30 : w3.cell? ⟨w.heap.size, 0, none⟩ = some (.int .i64 s) := cell_keep hb3' (by simp) (by first | (simp; done) | (simp; omega))
  have qw31 : w3.cell? ⟨w.heap.size, 1, none⟩ = some (.int .i64 f) := cell_keep hb3' (by simp) (by first | (simp; done) | (simp; omega))
  have qw32 : w3.cell? ⟨w.heap.size, 2, none⟩ = some (.int .i64 g) := cell_keep hb3' (by simp) (by first | (simp; done) | (simp; omega))
  have yw30 : w3.cell? ⟨w.heap.size + 1, 0, none⟩ = some (.int .i64 0) := cell_keep hb3' (by simp) (by first | (simp; done) | (simp; omega))
  have yw31 : w3.cell? ⟨w.heap.size + 1, 1, none⟩ = some (.int .i64 0) := cell_keep hb3' (by simp) (by first | (simp; done) | (simp; omega))
  have yw32 : w3.cell? ⟨w.heap.size + 1, 2, none⟩ = some (.int .i64 0) := cell_keep hb3' (by simp) (by first | (simp; done) | (simp; omega))
  have fw30 : w3.frozen? ⟨w.heap.size + 1, 0, none⟩ = false := frozen_keep hb3' (by simp) (by first | (simp; done) | (simp; omega))
  have fw31 : w3.frozen? ⟨w.heap.size + 1, 1, none⟩ = false := frozen_keep hb3' (by simp) (by first | (simp; done) | (simp; omega))
  have fw32 : w3.frozen? ⟨w.heap.size + 1, 2, none⟩ = false := frozen_keep hb3' (by simp) (by first | (simp; done) | (simp; omega))
  rw [HC.out]
  go_wp2_with fail
  refine (after_any s f g _ _ _ (by omega) (by omega)).mono ?_
  unfold AftPost
  obtain ⟨⟨⟨r0, r1, r2⟩, l, m⟩, hR⟩ : ∃ R, aftR (s, f, g) 1 n = R := ⟨_, rfl⟩
  rw [hR] at HE ⊢
  clear hR
  dsimp only at HE ⊢
  rintro er w4 ⟨A, c, rfl, hi, hb4⟩
  have HI := Lib.hid hi
  clear hi
  have hb4' : Below (w.heap.size + 1 + 1) ((w.alloc (.cells #[.int .i64 s, .int .i64 f, .int .i64 g] 23)).alloc (.cells #[.int .i64 0, .int .i64 0, .int .i64 0] 23)) w4 := hb3'.trans (hb4.mono (by have := hb3'.size; simpa using this))
  have qw40 : w4.cell? ⟨w.heap.size, 0, none⟩ = some (.int .i64 s) := cell_keep hb4' (by simp) (by first | (simp; done) | (simp; omega))
  have qw41 : w4.cell? ⟨w.heap.size, 1, none⟩ = some (.int .i64 f) := cell_keep hb4' (by simp) (by first | (simp; done) | (simp; omega))
  have qw42 : w4.cell? ⟨w.heap.size, 2, none⟩ = some (.int .i64 g) := cell_keep hb4' (by simp) (by first | (simp; done) | (simp; omega))
  have yw40 : w4.cell? ⟨w.heap.size + 1, 0, none⟩ = some (.int .i64 0) := cell_keep hb4' (by simp) (by first | (simp; done) | (simp; omega))
  have yw41 : w4.cell? ⟨w.heap.size + 1, 1, none⟩ = some (.int .i64 0) := cell_keep hb4' (by simp) (by first | (simp; done) | (simp; omega))
  have yw42 : w4.cell? ⟨w.heap.size + 1, 2, none⟩ = some (.int .i64 0) := cell_keep hb4' (by simp) (by first | (simp; done) | (simp; omega))
  have fw40 : w4.frozen? ⟨w.heap.size + 1, 0, none⟩ = false := frozen_keep hb4' (by simp) (by first | (simp; done) | (simp; omega))
  have fw41 : w4.frozen? ⟨w.heap.size + 1, 1, none⟩ = false := frozen_keep hb4' (by simp) (by first | (simp; done) | (simp; omega))
  have fw42 : w4.frozen? ⟨w.heap.size + 1, 2, none⟩ = false := frozen_keep hb4' (by simp) (by first | (simp; done) | (simp; omega))
  have hB : Below w.heap.size w w4 := (by repeat' (first | with_reducible exact Below.refl _ _ | with_reducible assumption | with_reducible apply Below.drew | with_reducible apply below_drewN | with_reducible apply Below.alloc | with_reducible apply Below.setCell | (with_reducible refine Below.trans ?_ (Below.mono (by assumption) ?_)) | (simp; done) | (simp; omega) | omega | with_reducible apply le_size_alloc | with_reducible apply le_size_drewN | with_reducible apply le_size_drew | with_reducible apply le_size_setCell | refine Nat.le_trans ?_ (Below.size (by assumption))))
  have zw4 : w.heap.size + 1 < w4.heap.size := by have := hb4'.size; simp at this; omega
  obtain ⟨x0, x1, x2⟩ := cells3 yw40 yw41 yw42 (.int .i64 r0) (.int .i64 r1) (.int .i64 r2)
  have zlt : w.heap.size + 1 < w3.heap.size := by have := hb3'.size; simp at this; omega
  have hI3 := ((HI.out.far (g := w.heap.size + 1) 0 (.int .i64 r0) zlt).far (g := w.heap.size + 1) 1 (.int .i64 r1) zlt).far (g := w.heap.size + 1) 2 (.int .i64 r2) zlt
  have hB3 := (((hB.setCell (p := ⟨w.heap.size + 1, 0, none⟩) (show w.heap.size ≤ w.heap.size + 1 by omega) (.int .i64 r0)).setCell (p := ⟨w.heap.size + 1, 1, none⟩) (show w.heap.size ≤ w.heap.size + 1 by omega) (.int .i64 r1)).setCell (p := ⟨w.heap.size + 1, 2, none⟩) (show w.heap.size ≤ w.heap.size + 1 by omega) (.int .i64 r2))
  obtain ⟨U, hU⟩ : ∃ U, ((w4.setCell ⟨w.heap.size + 1, 0, none⟩ (.int .i64 r0)).setCell ⟨w.heap.size + 1, 1, none⟩ (.int .i64 r1)).setCell ⟨w.heap.size + 1, 2, none⟩ (.int .i64 r2) = U := ⟨_, rfl⟩
  have fU0 : U.frozen? ⟨w.heap.size + 1, 0, none⟩ = false := by rw [← hU]; simp [go_sem, fw40]
  have fU1 : U.frozen? ⟨w.heap.size + 1, 1, none⟩ = false := by rw [← hU]; simp [go_sem, fw41]
  have fU2 : U.frozen? ⟨w.heap.size + 1, 2, none⟩ = false := by rw [← hU]; simp [go_sem, fw42]
  rw [hU] at x0 x1 x2 hI3 hB3
  have HI3 := Lib.hid hI3
  have HB3 := Lib.hid hB3
  clear hI3 hB3
  go_upto_region 13 with fail
  (try rw [hU])
  clear hU HI
  obtain ⟨p0, p1, p2⟩ := cells3 x0 x1 x2 (.int .i64 r0) (.int .i64 r1) (.int .i64 r2)
  have hI4 := ((HI3.out.far (g := w.heap.size + 1) 0 (.int .i64 r0) zlt).far (g := w.heap.size + 1) 1 (.int .i64 r1) zlt).far (g := w.heap.size + 1) 2 (.int .i64 r2) zlt
  have HI4 := Lib.hid (hI4.mono (show w.heap.size ≤ w3.heap.size by omega))
  clear hI4
  go_wp2_with fail
  refine bodyPost_ret (v := .tuple #[.agg #[.int .i64 r0, .int .i64 r1, .int .i64 r2], .slice A l.length c, .int .i64 m, .int .i64 0]) (by simp [results, Tryd.results17, go_sem, p0, p1, p2]) rfl ?_
  unfold StpPost
  rw [HE.out]
  exact ⟨A, c, rfl, HI4.out, ((HB3.out.setCell (p := ⟨w.heap.size + 1, 0, none⟩) (show w.heap.size ≤ w.heap.size + 1 by omega) _).setCell (p := ⟨w.heap.size + 1, 1, none⟩) (show w.heap.size ≤ w.heap.size + 1 by omega) _).setCell (p := ⟨w.heap.size + 1, 2, none⟩) (show w.heap.size ≤ w.heap.size + 1 by omega) _⟩
set_option maxRecDepth 100000 in
set_option maxHeartbeats 4000000 in
theorem Step_e_no (s f g e n : Int) (w : World) (hal : AL w) (h0 : chkR (s, f, g) = 0) (a2 : 2 ≤ e) (a6 : e ≤ 6) (hn : n = -1) (hc : canR (s, f, g) e = false) :
    Calls Tryd.prog 17 #[.agg #[.int .i64 s, .int .i64 f, .int .i64 g], .int .i64 e, .int .i64 n] w (StpPost (stpR (s, f, g) e n) w) := by
  have HE : Hid (stpR (s, f, g) e n = ((0, 0, 0), [], 0, 9)) := by show _ = _; unfold stpR; rw [if_neg (by rw [h0]; simp), if_neg (by omega), if_neg (by omega), if_pos hc]
  obtain ⟨h1, h8⟩ := chk_state h0
  have HZ := Lib.hid h0
  have HAL := Lib.hid hal
  clear h0 hal
  have e1 : (e == 1) = false := by simp; omega
  have e2 : (e != 1) = true := by simp; omega
  have a1 : ¬ e < 1 := by omega
  subst hn
  have HC := Lib.hid hc
  clear hc
  go_enter Tryd.func17, Tryd.ntmps17
  go_wp2_with fail
  refine (Check_any s f g _ HZ.out).mono ?_
  rintro e w1 ⟨rfl, hb1⟩
  have qw10 : w1.cell? ⟨w.heap.size, 0, none⟩ = some (.int .i64 s) := cell_keep hb1 (by simp) (by first | (simp; done) | (simp; omega))
  have qw11 : w1.cell? ⟨w.heap.size, 1, none⟩ = some (.int .i64 f) := cell_keep hb1 (by simp) (by first | (simp; done) | (simp; omega))
  have qw12 : w1.cell? ⟨w.heap.size, 2, none⟩ = some (.int .i64 g) := cell_keep hb1 (by simp) (by first | (simp; done) | (simp; omega))
  have yw10 : w1.cell? ⟨w.heap.size + 1, 0, none⟩ = some (.int .i64 0) := cell_keep hb1 (by simp) (by first | (simp; done) | (simp; omega))
  have yw11 : w1.cell? ⟨w.heap.size + 1, 1, none⟩ = some (.int .i64 0) := cell_keep hb1 (by simp) (by first | (simp; done) | (simp; omega))
  have yw12 : w1.cell? ⟨w.heap.size + 1, 2, none⟩ = some (.int .i64 0) := cell_keep hb1 (by simp) (by first | (simp; done) | (simp; omega))
  have fw10 : w1.frozen? ⟨w.heap.size + 1, 0, none⟩ = false := frozen_keep hb1 (by simp) (by first | (simp; done) | (simp; omega))
  have fw11 : w1.frozen? ⟨w.heap.size + 1, 1, none⟩ = false := frozen_keep hb1 (by simp) (by first | (simp; done) | (simp; omega))
  have fw12 : w1.frozen? ⟨w.heap.size + 1, 2, none⟩ = false := frozen_keep hb1 (by simp) (by first | (simp; done) | (simp; omega))
  go_wp2_with fail
  have hb1' : Below (w.heap.size + 1 + 1) ((w.alloc (.cells #[.int .i64 s, .int .i64 f, .int .i64 g] 23)).alloc (.cells #[.int .i64 0, .int .i64 0, .int .i64 0] 23)) w1 := by simpa using hb1
  refine (can_any s f g _ _ (HAL.out.ext (by repeat' (first | with_reducible exact Below.refl _ _ | with_reducible assumption | with_reducible apply Below.drew | with_reducible apply below_drewN | with_reducible apply Below.alloc | with_reducible apply Below.setCell | (with_reducible refine Below.trans ?_ (Below.mono (by assumption) ?_)) | (simp; done) | (simp; omega) | omega | with_reducible apply le_size_alloc | with_reducible apply le_size_drewN | with_reducible apply le_size_drew | with_reducible apply le_size_setCell | refine Nat.le_trans ?_ (Below.size (by assumption))))) h1 h8 (by omega) (by omega)).mono ?_
  rintro er w3 ⟨rfl, hb3⟩
  have hb3' : Below (w.heap.size + 1 + 1) ((w.alloc (.cells #[.int .i64 s, .int .i64 f, .int .i64 g] 23)).alloc (.cells #[.int .i64 0, .int .i64 0, .int .i64 0] 23)) w3 := hb1'.trans (hb3.mono (by have := hb1'.size; simpa using this))
  have qw30 : w3.cell? ⟨w.heap.size, 0, none⟩ = some (.int .i64 s) := cell_keep hb3' (by simp) (by first | (simp; done) | (simp; omega))
  have qw31 : w3.cell? ⟨w.heap.size, 1, none⟩ = some (.int .i64 f) := cell_keep hb3' (by simp) (by first | (simp; done) | (simp; omega))
  have qw32 : w3.cell? ⟨w.heap.size, 2, none⟩ = some (.int .i64 g) := cell_keep hb3' (by simp) (by first | (simp; done) | (simp; omega))
  have yw30 : w3.cell? ⟨w.heap.size + 1, 0, none⟩ = some (.int .i64 0) := cell_keep hb3' (by simp) (by first | (simp; done) | (simp; omega))
  have yw31 : w3.cell? ⟨w.heap.size + 1, 1, none⟩ = some (.int .i64 0) := cell_keep hb3' (by simp) (by first | (simp; done) | (simp; omega))
  have yw32 : w3.cell? ⟨w.heap.size + 1, 2, none⟩ = some (.int .i64 0) := cell_keep hb3' (by simp) (by first | (simp; done) | (simp; omega))
  have fw30 : w3.frozen? ⟨w.heap.size + 1, 0, none⟩ = false := frozen_keep hb3' (by simp) (by first | (simp; done) | (simp; omega))
  have fw31 : w3.frozen? ⟨w.heap.size + 1, 1, none⟩ = false := frozen_keep hb3' (by simp) (by first | (simp; done) | (simp; omega))
  have fw32 : w3.frozen? ⟨w.heap.size + 1, 2, none⟩ = false := frozen_keep hb3' (by simp) (by first | (simp; done) | (simp; omega))
  rw [HC.out]
  go_wp2_with fail
  refine bodyPost_ret (v := .tuple #[.agg #[.int .i64 0, .int .i64 0, .int .i64 0], .slice none 0 0, .int .i64 0, .int .i64 9]) (by simp [results, Tryd.results17, go_sem, yw30, yw31, yw32, fw30, fw31, fw32]) rfl ?_
  unfold StpPost
  rw [HE.out]
  exact ⟨none, 0, rfl, IWn.nil, (by repeat' (first | with_reducible exact Below.refl _ _ | with_reducible assumption | with_reducible apply Below.drew | with_reducible apply below_drewN | with_reducible apply Below.alloc | with_reducible apply Below.setCell | (with_reducible refine Below.trans ?_ (Below.mono (by assumption) ?_)) | (simp; done) | (simp; omega) | omega | with_reducible apply le_size_alloc | with_reducible apply le_size_drewN | with_reducible apply le_size_drew | with_reducible apply le_size_setCell | refine Nat.le_trans ?_ (Below.size (by assumption))))⟩
set_option maxRecDepth 100000 in
set_option maxHeartbeats 4000000 in
theorem Step_e_yes (s f g e n : Int) (w : World) (hal : AL w) (h0 : chkR (s, f, g) = 0) (a2 : 2 ≤ e) (a6 : e ≤ 6) (hn : n = -1) (hc : canR (s, f, g) e = true) :
    Calls Tryd.prog 17 #[.agg #[.int .i64 s, .int .i64 f, .int .i64 g], .int .i64 e, .int .i64 n] w (StpPost (stpR (s, f, g) e n) w) := by
  have HE : Hid (stpR (s, f, g) e n = ((aftR (s, f, g) e n).1, (aftR (s, f, g) e n).2.1, (aftR (s, f, g) e n).2.2, 0)) := by show _ = _; unfold stpR; rw [if_neg (by rw [h0]; simp), if_neg (by omega), if_neg (by omega), if_neg (by rw [hc]; simp), if_neg (by omega)]
  obtain ⟨h1, h8⟩ := chk_state h0
  have HZ := Lib.hid h0
  have HAL := Lib.hid hal
  clear h0 hal
  have e1 : (e == 1) = false := by simp; omega
  have e2 : (e != 1) = true := by simp; omega
  have a1 : ¬ e < 1 := by omega
  subst hn
  have HC := Lib.hid hc
  clear hc
  go_enter Tryd.func17, Tryd.ntmps17
  go_wp2_with fail
  refine (Check_any s f g _ HZ.out).mono ?_
  rintro e w1 ⟨rfl, hb1⟩
  have qw10 : w1.cell? ⟨w.heap.size, 0, none⟩ = some (.int .i64 s) := cell_keep hb1 (by simp) (by first | (simp; done) | (simp; omega))
  have qw11 : w1.cell? ⟨w.heap.size, 1, none⟩ = some (.int .i64 f) := cell_keep hb1 (by simp) (by first | (simp; done) | (simp; omega))
  have qw12 : w1.cell? ⟨w.heap.size, 2, none⟩ = some (.int .i64 g) := cell_keep hb1 (by simp) (by first | (simp; done) | (simp; omega))
  have yw10 : w1.cell? ⟨w.heap.size + 1, 0, none⟩ = some (.int .i64 0) := cell_keep hb1 (by simp) (by first | (simp; done) | (simp; omega))
  have yw11 : w1.cell? ⟨w.heap.size + 1, 1, none⟩ = some (.int .i64 0) := cell_keep hb1 (by simp) (by first | (simp; done) | (simp; omega))
  have yw12 : w1.cell? ⟨w.heap.size + 1, 2, none⟩ = some (.int .i64 0) := cell_keep hb1 (by simp) (by first | (simp; done) | (simp; omega))
  have fw10 : w1.frozen? ⟨w.heap.size + 1, 0, none⟩ = false := frozen_keep hb1 (by simp) (by first | (simp; done) | (simp; omega))
  have fw11 : w1.frozen? ⟨w.heap.size + 1, 1, none⟩ = false := frozen_keep hb1 (by simp) (by first | (simp; done) | (simp; omega))
  have fw12 : w1.frozen? ⟨w.heap.size + 1, 2, none⟩ = false := frozen_keep hb1 (by simp) (by first | (simp; done) | (simp; omega))
  go_wp2_with fail
  have hb1' : Below (w.heap.size + 1 + 1) ((w.alloc (.cells #[.int .i64 s, .int .i64 f, .int .i64 g] 23)).alloc (.cells #[.int .i64 0, .int .i64 0, .int .i64 0] 23)) w1 := by simpa using hb1
  refine (can_any s f g _ _ (HAL.out.ext (by repeat' (first | with_reducible exact Below.refl _ _ | with_reducible assumption | with_reducible apply Below.drew | with_reducible apply below_drewN | with_reducible apply Below.alloc | with_reducible apply Below.setCell | (with_reducible refine Below.trans ?_ (Below.mono (by assumption) ?_)) | (simp; done) | (simp; omega) | omega | with_reducible apply le_size_alloc | with_reducible apply le_size_drewN | with_reducible apply le_size_drew | with_reducible apply le_size_setCell | refine Nat.le_trans ?_ (Below.size (by assumption))))) h1 h8 (by omega) (by omega)).mono ?_
  rintro er w3 ⟨rfl, hb3⟩
  have hb3' : Below (w.heap.size + 1 + 1) ((w.alloc (.cells #[.int .i64 s, .int .i64 f, .int .i64 g] 23)).alloc (.cells #[.int .i64 0, .int .i64 0, .int .i64 0] 23)) w3 := hb1'.trans (hb3.mono (by have := hb1'.size; simpa using this))
  have qw30 : w3.cell? ⟨w.heap.size, 0, none⟩ = some (.int .i64 s) := cell_keep hb3' (by simp) (by first | (simp; done) | (simp; omega))
  have qw31 : w3.cell? ⟨w.heap.size, 1, none⟩ = some (.int .i64 f) := cell_keep hb3' (by simp) (by first | (simp; done) | (simp; omega))
  have qw32 : w3.cell? ⟨w.heap.size, 2, none⟩ = some (.int .i64 g) := cell_keep hb3' (by simp) (by first | (simp; done) | (simp; omega))
  have yw30 : w3.cell? ⟨w.heap.size + 1, 0, none⟩ = some (.int .i64 0) := cell_keep hb3' (by simp) (by first | (simp; done) | (simp; omega))
  have yw31 : w3.cell? ⟨w.heap.size + 1, 1, none⟩ = some (.int .i64 0) := cell_keep hb3' (by simp) (by first | (simp; done) | (simp; omega))
  have yw32 : w3.cell? ⟨w.heap.size + 1, 2, none⟩ = some (.int .i64 0) := cell_keep hb3' (by simp) (by first | (simp; done) | (simp; omega))
  have fw30 : w3.frozen? ⟨w.heap.size + 1, 0, none⟩ = false := frozen_keep hb3' (by simp) (by first | (simp; done) | (simp; omega))
  have fw31 : w3.frozen? ⟨w.heap.size + 1, 1, none⟩ = false := frozen_keep hb3' (by simp) (by first | (simp; done) | (simp; omega))
  have fw32 : w3.frozen? ⟨w.heap.size + 1, 2, none⟩ = false := frozen_keep hb3' (by simp) (by first | (simp; done) | (simp; omega))
  rw [HC.out]
  go_wp2_with fail
  refine (after_any s f g _ _ _ (by omega) (by omega)).mono ?_
  unfold AftPost
  obtain ⟨⟨⟨r0, r1, r2⟩, l, m⟩, hR⟩ : ∃ R, aftR (s, f, g) e (-1) = R := ⟨_, rfl⟩
  rw [hR] at HE ⊢
  clear hR
  dsimp only at HE ⊢
  rintro er w4 ⟨A, c, rfl, hi, hb4⟩
  have HI := Lib.hid hi
  clear hi
  have hb4' : Below (w.heap.size + 1 + 1) ((w.alloc (.cells #[.int .i64 s, .int .i64 f, .int .i64 g] 23)).alloc (.cells #[.int .i64 0, .int .i64 0, .int .i64 0] 23)) w4 := hb3'.trans (hb4.mono (by have := hb3'.size; simpa using this))
  have qw40 : w4.cell? ⟨w.heap.size, 0, none⟩ = some (.int .i64 s) := cell_keep hb4' (by simp) (by first | (simp; done) | (simp; omega))
  have qw41 : w4.cell? ⟨w.heap.size, 1, none⟩ = some (.int .i64 f) := cell_keep hb4' (by simp) (by first | (simp; done) | (simp; omega))
  have qw42 : w4.cell? ⟨w.heap.size, 2, none⟩ = some (.int .i64 g) := cell_keep hb4' (by simp) (by first | (simp; done) | (simp; omega))
  have yw40 : w4.cell? ⟨w.heap.size + 1, 0, none⟩ = some (.int .i64 0) := cell_keep hb4' (by simp) (by first | (simp; done) | (simp; omega))
  have yw41 : w4.cell? ⟨w.heap.size + 1, 1, none⟩ = some (.int .i64 0) := cell_keep hb4' (by simp) (by first | (simp; done) | (simp; omega))
  have yw42 : w4.cell? ⟨w.heap.size + 1, 2, none⟩ = some (.int .i64 0) := cell_keep hb4' (by simp) (by first | (simp; done) | (simp; omega))
  have fw40 : w4.frozen? ⟨w.heap.size + 1, 0, none⟩ = false := frozen_keep hb4' (by simp) (by first | (simp; done) | (simp; omega))
  have fw41 : w4.frozen? ⟨w.heap.size + 1, 1, none⟩ = false := frozen_keep hb4' (by simp) (by first | (simp; done) | (simp; omega))
  have fw42 : w4.frozen? ⟨w.heap.size + 1, 2, none⟩ = false := frozen_keep hb4' (by simp) (by first | (simp; done) | (simp; omega))
  have hB : Below w.heap.size w w4 := (by repeat' (first | with_reducible exact Below.refl _ _ | with_reducible assumption | with_reducible apply Below.drew | with_reducible apply below_drewN | with_reducible apply Below.alloc | with_reducible apply Below.setCell | (with_reducible refine Below.trans ?_ (Below.mono (by assumption) ?_)) | (simp; done) | (simp; omega) | omega | with_reducible apply le_size_alloc | with_reducible apply le_size_drewN | with_reducible apply le_size_drew | with_reducible apply le_size_setCell | refine Nat.le_trans ?_ (Below.size (by assumption))))
  have zw4 : w.heap.size + 1 < w4.heap.size := by have := hb4'.size; simp at this; omega
  obtain ⟨x0, x1, x2⟩ := cells3 yw40 yw41 yw42 (.int .i64 r0) (.int .i64 r1) (.int .i64 r2)
  have zlt : w.heap.size + 1 < w3.heap.size := by have := hb3'.size; simp at this; omega
  have hI3 := ((HI.out.far (g := w.heap.size + 1) 0 (.int .i64 r0) zlt).far (g := w.heap.size + 1) 1 (.int .i64 r1) zlt).far (g := w.heap.size + 1) 2 (.int .i64 r2) zlt
  have hB3 := (((hB.setCell (p := ⟨w.heap.size + 1, 0, none⟩) (show w.heap.size ≤ w.heap.size + 1 by omega) (.int .i64 r0)).setCell (p := ⟨w.heap.size + 1, 1, none⟩) (show w.heap.size ≤ w.heap.size + 1 by omega) (.int .i64 r1)).setCell (p := ⟨w.heap.size + 1, 2, none⟩) (show w.heap.size ≤ w.heap.size + 1 by omega) (.int .i64 r2))
  obtain ⟨U, hU⟩ : ∃ U, ((w4.setCell ⟨w.heap.size + 1, 0, none⟩ (.int .i64 r0)).setCell ⟨w.heap.size + 1, 1, none⟩ (.int .i64 r1)).setCell ⟨w.heap.size + 1, 2, none⟩ (.int .i64 r2) = U := ⟨_, rfl⟩
  have fU0 : U.frozen? ⟨w.heap.size + 1, 0, none⟩ = false := by rw [← hU]; simp [go_sem, fw40]
  have fU1 : U.frozen? ⟨w.heap.size + 1, 1, none⟩ = false := by rw [← hU]; simp [go_sem, fw41]
  have fU2 : U.frozen? ⟨w.heap.size + 1, 2, none⟩ = false := by rw [← hU]; simp [go_sem, fw42]
  rw [hU] at x0 x1 x2 hI3 hB3
  have HI3 := Lib.hid hI3
  have HB3 := Lib.hid hB3
  clear hI3 hB3
  go_upto_region 13 with fail
  (try rw [hU])
  clear hU HI
  obtain ⟨p0, p1, p2⟩ := cells3 x0 x1 x2 (.int .i64 r0) (.int .i64 r1) (.int .i64 r2)
  have hI4 := ((HI3.out.far (g := w.heap.size + 1) 0 (.int .i64 r0) zlt).far (g := w.heap.size + 1) 1 (.int .i64 r1) zlt).far (g := w.heap.size + 1) 2 (.int .i64 r2) zlt
  have HI4 := Lib.hid (hI4.mono (show w.heap.size ≤ w3.heap.size by omega))
  clear hI4
  go_wp2_with fail
  refine bodyPost_ret (v := .tuple #[.agg #[.int .i64 r0, .int .i64 r1, .int .i64 r2], .slice A l.length c, .int .i64 m, .int .i64 0]) (by simp [results, Tryd.results17, go_sem, p0, p1, p2]) rfl ?_
  unfold StpPost
  rw [HE.out]
  exact ⟨A, c, rfl, HI4.out, ((HB3.out.setCell (p := ⟨w.heap.size + 1, 0, none⟩) (show w.heap.size ≤ w.heap.size + 1 by omega) _).setCell (p := ⟨w.heap.size + 1, 1, none⟩) (show w.heap.size ≤ w.heap.size + 1 by omega) _).setCell (p := ⟨w.heap.size + 1, 2, none⟩) (show w.heap.size ≤ w.heap.size + 1 by omega) _⟩
theorem Step_any (s f g e n : Int) (w : World) (hal : AL w) :
    Calls Tryd.prog 17 #[.agg #[.int .i64 s, .int .i64 f, .int .i64 g], .int .i64 e, .int .i64 n] w (StpPost (stpR (s, f, g) e n) w) := by
  by_cases h0 : chkR (s, f, g) = 0
  · by_cases h1 : e < 1
    · exact Step_kinda s f g e n w h0 h1
    · by_cases h6 : 6 < e
      · exact Step_kindb s f g e n w h0 h6
      · by_cases he : e = 1
        · cases hd : decide (0 ≤ n ∧ n < 256) with
          | false => exact Step_range1 s f g e n w h0 he hd
          | true =>
            cases hc : canR (s, f, g) e with
            | false => exact Step_f_no s f g e n w hal h0 he hd hc
            | true =>
              by_cases hg : n = g
              · exact Step_f_has s f g e n w hal h0 he hd hc hg
              · exact Step_f_yes s f g e n w hal h0 he hd hc hg
        · by_cases hn : n = -1
          · cases hc : canR (s, f, g) e with
            | false => exact Step_e_no s f g e n w hal h0 (by omega) (by omega) hn hc
            | true => exact Step_e_yes s f g e n w hal h0 (by omega) (by omega) hn hc
          · exact Step_range2 s f g e n w h0 (by omega) (by omega) hn
  · exact Step_chk s f g e n w h0
end Go.Proofs.YtngenoblifhnpaaDoor
