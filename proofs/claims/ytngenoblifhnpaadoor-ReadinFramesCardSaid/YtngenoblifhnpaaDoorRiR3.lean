/- Contracts of the reference of layer 21: Step, the ways that go through. Written by gen_rir2.py. -/
import Derived.Test.YtngenoblifhnpaaDoorRiR2
namespace Go.Proofs.YtngenoblifhnpaaDoor
open Go.RowKit Go.Maps
set_option maxRecDepth 100000 in
set_option maxHeartbeats 4000000 in
theorem rStep_1 (s f g e n : Int) (w : World) (h0 : chkR (s, f, g) = 0) (he : e = 1) (hd : decide (0 ≤ n ∧ n < 256) = true) (hc : canR (s, f, g) e = true) (hg : n ≠ g) :
    Calls Tryd.prog 28 #[.agg #[.int .i64 s, .int .i64 f, .int .i64 g], .int .i64 e, .int .i64 n] w (StpPost (stpR (s, f, g) e n) w) := by
  subst he
  obtain ⟨rfl, rfl⟩ : s = 1 ∧ g = -1 := by simpa [canR] using hc
  have HE : Hid (stpR (1, f, -1) 1 n = ((2, n, (-1)), [], (-1), 0)) := by
    show _ = _
    unfold stpR
    rw [if_neg (by simp [h0]), if_neg (by omega), if_neg (by have := of_decide_eq_true hd; omega), if_neg (by rw [hc]; simp), if_neg (by intro hh; have h1 := hh.1; have h2 := hh.2; simp at h1 h2; try omega)]
    rfl
  have HC := Lib.hid h0; have HA := Lib.hid hc
  have hgb : (n == -1) = false := by simpa using hg
  clear h0 hc
  go_enter Tryd.func28, Tryd.ntmps28
  go_wp2_with fail
  refine (rCheck_any 1 f (-1) _ HC.out).mono ?_
  rintro er w1 ⟨rfl, hb1⟩
  have q0 : w1.cell? ⟨w.heap.size, 0, none⟩ = some (.int .i64 1) := cell_keep hb1 (by simp) (by simp; try omega)
  have q1 : w1.cell? ⟨w.heap.size, 1, none⟩ = some (.int .i64 f) := cell_keep hb1 (by simp) (by simp; try omega)
  have q2 : w1.cell? ⟨w.heap.size, 2, none⟩ = some (.int .i64 (-1)) := cell_keep hb1 (by simp) (by simp; try omega)
  have p0 : w1.cell? ⟨w.heap.size + 1, 0, none⟩ = some (.int .i64 0) := cell_keep hb1 (by simp) (by simp)
  have fz0 : w1.frozen? ⟨w.heap.size + 1, 0, none⟩ = false := frozen_keep hb1 (by simp) (by simp)
  have p1 : w1.cell? ⟨w.heap.size + 1, 1, none⟩ = some (.int .i64 0) := cell_keep hb1 (by simp) (by simp)
  have fz1 : w1.frozen? ⟨w.heap.size + 1, 1, none⟩ = false := frozen_keep hb1 (by simp) (by simp)
  have p2 : w1.cell? ⟨w.heap.size + 1, 2, none⟩ = some (.int .i64 0) := cell_keep hb1 (by simp) (by simp)
  have fz2 : w1.frozen? ⟨w.heap.size + 1, 2, none⟩ = false := frozen_keep hb1 (by simp) (by simp)
  have zl : w.heap.size + 1 < w1.heap.size := by have := hb1.size; simp at this; omega
  go_wp2_with (go_at_call 42; with_reducible refine (rframe_b n _ hd _).mono ?_; rintro er w' ⟨rfl, rfl⟩)
  refine (allows_any 1 f (-1) 1 _ HC.out (by omega) (by omega)).mono ?_
  rw [HA.out]
  rintro er w2 ⟨rfl, hb2⟩
  have hbw : Below (w.heap.size + 2) ((w.alloc (.cells #[.int .i64 1, .int .i64 f, .int .i64 (-1)] 23)).alloc (.cells #[.int .i64 0, .int .i64 0, .int .i64 0] 23)) w2 := by
    refine (show Below _ _ w1 from by simpa using hb1).trans (hb2.mono ?_)
    have := hb1.size; simp at this; omega
  have HB2 : Hid (Below w.heap.size w w2) := ((((Below.refl _ _).alloc (Nat.le_refl _) _).alloc (by simp) _).trans (hbw.mono (by omega)))
  clear q0 q1 q2 p0 p1 p2 fz0 fz1 fz2 zl hb1 hb2
  have q0 : w2.cell? ⟨w.heap.size, 0, none⟩ = some (.int .i64 1) := cell_keep hbw (by simp) (by simp; try omega)
  have q1 : w2.cell? ⟨w.heap.size, 1, none⟩ = some (.int .i64 f) := cell_keep hbw (by simp) (by simp; try omega)
  have q2 : w2.cell? ⟨w.heap.size, 2, none⟩ = some (.int .i64 (-1)) := cell_keep hbw (by simp) (by simp; try omega)
  have p0 : w2.cell? ⟨w.heap.size + 1, 0, none⟩ = some (.int .i64 0) := cell_keep hbw (by simp) (by simp)
  have fz0 : w2.frozen? ⟨w.heap.size + 1, 0, none⟩ = false := frozen_keep hbw (by simp) (by simp)
  have p1 : w2.cell? ⟨w.heap.size + 1, 1, none⟩ = some (.int .i64 0) := cell_keep hbw (by simp) (by simp)
  have fz1 : w2.frozen? ⟨w.heap.size + 1, 1, none⟩ = false := frozen_keep hbw (by simp) (by simp)
  have p2 : w2.cell? ⟨w.heap.size + 1, 2, none⟩ = some (.int .i64 0) := cell_keep hbw (by simp) (by simp)
  have fz2 : w2.frozen? ⟨w.heap.size + 1, 2, none⟩ = false := frozen_keep hbw (by simp) (by simp)
  have zl : w.heap.size + 1 < w2.heap.size := by have := hbw.size; simp at this; omega
  clear hbw
  have zn : w.heap.size + 1 ≠ w2.heap.size := by omega
  have zm : w.heap.size ≠ w2.heap.size := by omega
  have zk : w.heap.size < w2.heap.size := by omega
  go_wp2_with fail
  refine bodyPost_ret (v := .tuple #[.agg #[.int .i64 2, .int .i64 n, .int .i64 (-1)], .slice none 0 0, .int .i64 (-1), .int .i64 0]) (by simp [results, Tryd.results28, go_sem, p0, p1, p2, zl, zn]) rfl ?_
  unfold StpPost
  rw [HE.out]
  have hb := HB2.out
  have zz : w.heap.size ≤ w2.heap.size := by omega
  exact ⟨none, 0, rfl, IWn.nil, by repeat' (first | with_reducible exact hb | with_reducible apply Below.setCell | with_reducible apply Below.alloc | (simp; done) | (simp [World.setCell]; omega) | omega)⟩
set_option maxRecDepth 100000 in
set_option maxHeartbeats 4000000 in
theorem rStep_2 (s f g e n : Int) (w : World) (h0 : chkR (s, f, g) = 0) (hn : n = -1) (hc : canR (s, f, g) e = true) (he : e = 2) :
    Calls Tryd.prog 28 #[.agg #[.int .i64 s, .int .i64 f, .int .i64 g], .int .i64 e, .int .i64 n] w (StpPost (stpR (s, f, g) e n) w) := by
  subst he hn
  have HE : Hid (stpR (s, f, g) 2 (-1) = ((4, f, g), [], (-1), 0)) := by
    show _ = _
    unfold stpR
    rw [if_neg (by simp [h0]), if_neg (by omega), if_neg (by omega), if_neg (by rw [hc]; simp), if_neg (by intro hh; have h1 := hh.1; have h2 := hh.2; simp at h1 h2; try omega)]
    rfl
  have HC := Lib.hid h0; have HA := Lib.hid hc
  clear h0 hc
  go_enter Tryd.func28, Tryd.ntmps28
  go_wp2_with fail
  refine (rCheck_any s f g _ HC.out).mono ?_
  rintro er w1 ⟨rfl, hb1⟩
  have q0 : w1.cell? ⟨w.heap.size, 0, none⟩ = some (.int .i64 s) := cell_keep hb1 (by simp) (by simp; try omega)
  have q1 : w1.cell? ⟨w.heap.size, 1, none⟩ = some (.int .i64 f) := cell_keep hb1 (by simp) (by simp; try omega)
  have q2 : w1.cell? ⟨w.heap.size, 2, none⟩ = some (.int .i64 g) := cell_keep hb1 (by simp) (by simp; try omega)
  have p0 : w1.cell? ⟨w.heap.size + 1, 0, none⟩ = some (.int .i64 0) := cell_keep hb1 (by simp) (by simp)
  have fz0 : w1.frozen? ⟨w.heap.size + 1, 0, none⟩ = false := frozen_keep hb1 (by simp) (by simp)
  have p1 : w1.cell? ⟨w.heap.size + 1, 1, none⟩ = some (.int .i64 0) := cell_keep hb1 (by simp) (by simp)
  have fz1 : w1.frozen? ⟨w.heap.size + 1, 1, none⟩ = false := frozen_keep hb1 (by simp) (by simp)
  have p2 : w1.cell? ⟨w.heap.size + 1, 2, none⟩ = some (.int .i64 0) := cell_keep hb1 (by simp) (by simp)
  have fz2 : w1.frozen? ⟨w.heap.size + 1, 2, none⟩ = false := frozen_keep hb1 (by simp) (by simp)
  have zl : w.heap.size + 1 < w1.heap.size := by have := hb1.size; simp at this; omega
  go_wp2_with fail
  refine (allows_any s f g 2 _ HC.out (by omega) (by omega)).mono ?_
  rw [HA.out]
  rintro er w2 ⟨rfl, hb2⟩
  have hbw : Below (w.heap.size + 2) ((w.alloc (.cells #[.int .i64 s, .int .i64 f, .int .i64 g] 23)).alloc (.cells #[.int .i64 0, .int .i64 0, .int .i64 0] 23)) w2 := by
    refine (show Below _ _ w1 from by simpa using hb1).trans (hb2.mono ?_)
    have := hb1.size; simp at this; omega
  have HB2 : Hid (Below w.heap.size w w2) := ((((Below.refl _ _).alloc (Nat.le_refl _) _).alloc (by simp) _).trans (hbw.mono (by omega)))
  clear q0 q1 q2 p0 p1 p2 fz0 fz1 fz2 zl hb1 hb2
  have q0 : w2.cell? ⟨w.heap.size, 0, none⟩ = some (.int .i64 s) := cell_keep hbw (by simp) (by simp; try omega)
  have q1 : w2.cell? ⟨w.heap.size, 1, none⟩ = some (.int .i64 f) := cell_keep hbw (by simp) (by simp; try omega)
  have q2 : w2.cell? ⟨w.heap.size, 2, none⟩ = some (.int .i64 g) := cell_keep hbw (by simp) (by simp; try omega)
  have p0 : w2.cell? ⟨w.heap.size + 1, 0, none⟩ = some (.int .i64 0) := cell_keep hbw (by simp) (by simp)
  have fz0 : w2.frozen? ⟨w.heap.size + 1, 0, none⟩ = false := frozen_keep hbw (by simp) (by simp)
  have p1 : w2.cell? ⟨w.heap.size + 1, 1, none⟩ = some (.int .i64 0) := cell_keep hbw (by simp) (by simp)
  have fz1 : w2.frozen? ⟨w.heap.size + 1, 1, none⟩ = false := frozen_keep hbw (by simp) (by simp)
  have p2 : w2.cell? ⟨w.heap.size + 1, 2, none⟩ = some (.int .i64 0) := cell_keep hbw (by simp) (by simp)
  have fz2 : w2.frozen? ⟨w.heap.size + 1, 2, none⟩ = false := frozen_keep hbw (by simp) (by simp)
  have zl : w.heap.size + 1 < w2.heap.size := by have := hbw.size; simp at this; omega
  clear hbw
  have zn : w.heap.size + 1 ≠ w2.heap.size := by omega
  have zm : w.heap.size ≠ w2.heap.size := by omega
  have zk : w.heap.size < w2.heap.size := by omega
  go_wp2_with fail
  refine bodyPost_ret (v := .tuple #[.agg #[.int .i64 4, .int .i64 f, .int .i64 g], .slice none 0 0, .int .i64 (-1), .int .i64 0]) (by simp [results, Tryd.results28, go_sem, p0, p1, p2, zl, zn]) rfl ?_
  unfold StpPost
  rw [HE.out]
  have hb := HB2.out
  have zz : w.heap.size ≤ w2.heap.size := by omega
  exact ⟨none, 0, rfl, IWn.nil, by repeat' (first | with_reducible exact hb | with_reducible apply Below.setCell | with_reducible apply Below.alloc | (simp; done) | (simp [World.setCell]; omega) | omega)⟩
set_option maxRecDepth 100000 in
set_option maxHeartbeats 4000000 in
theorem rStep_3 (s f g e n : Int) (w : World) (h0 : chkR (s, f, g) = 0) (hn : n = -1) (hc : canR (s, f, g) e = true) (he : e = 3) :
    Calls Tryd.prog 28 #[.agg #[.int .i64 s, .int .i64 f, .int .i64 g], .int .i64 e, .int .i64 n] w (StpPost (stpR (s, f, g) e n) w) := by
  subst he hn
  have HE : Hid (stpR (s, f, g) 3 (-1) = ((3, f, g), [], (-1), 0)) := by
    show _ = _
    unfold stpR
    rw [if_neg (by simp [h0]), if_neg (by omega), if_neg (by omega), if_neg (by rw [hc]; simp), if_neg (by intro hh; have h1 := hh.1; have h2 := hh.2; simp at h1 h2; try omega)]
    rfl
  have HC := Lib.hid h0; have HA := Lib.hid hc
  clear h0 hc
  go_enter Tryd.func28, Tryd.ntmps28
  go_wp2_with fail
  refine (rCheck_any s f g _ HC.out).mono ?_
  rintro er w1 ⟨rfl, hb1⟩
  have q0 : w1.cell? ⟨w.heap.size, 0, none⟩ = some (.int .i64 s) := cell_keep hb1 (by simp) (by simp; try omega)
  have q1 : w1.cell? ⟨w.heap.size, 1, none⟩ = some (.int .i64 f) := cell_keep hb1 (by simp) (by simp; try omega)
  have q2 : w1.cell? ⟨w.heap.size, 2, none⟩ = some (.int .i64 g) := cell_keep hb1 (by simp) (by simp; try omega)
  have p0 : w1.cell? ⟨w.heap.size + 1, 0, none⟩ = some (.int .i64 0) := cell_keep hb1 (by simp) (by simp)
  have fz0 : w1.frozen? ⟨w.heap.size + 1, 0, none⟩ = false := frozen_keep hb1 (by simp) (by simp)
  have p1 : w1.cell? ⟨w.heap.size + 1, 1, none⟩ = some (.int .i64 0) := cell_keep hb1 (by simp) (by simp)
  have fz1 : w1.frozen? ⟨w.heap.size + 1, 1, none⟩ = false := frozen_keep hb1 (by simp) (by simp)
  have p2 : w1.cell? ⟨w.heap.size + 1, 2, none⟩ = some (.int .i64 0) := cell_keep hb1 (by simp) (by simp)
  have fz2 : w1.frozen? ⟨w.heap.size + 1, 2, none⟩ = false := frozen_keep hb1 (by simp) (by simp)
  have zl : w.heap.size + 1 < w1.heap.size := by have := hb1.size; simp at this; omega
  go_wp2_with fail
  refine (allows_any s f g 3 _ HC.out (by omega) (by omega)).mono ?_
  rw [HA.out]
  rintro er w2 ⟨rfl, hb2⟩
  have hbw : Below (w.heap.size + 2) ((w.alloc (.cells #[.int .i64 s, .int .i64 f, .int .i64 g] 23)).alloc (.cells #[.int .i64 0, .int .i64 0, .int .i64 0] 23)) w2 := by
    refine (show Below _ _ w1 from by simpa using hb1).trans (hb2.mono ?_)
    have := hb1.size; simp at this; omega
  have HB2 : Hid (Below w.heap.size w w2) := ((((Below.refl _ _).alloc (Nat.le_refl _) _).alloc (by simp) _).trans (hbw.mono (by omega)))
  clear q0 q1 q2 p0 p1 p2 fz0 fz1 fz2 zl hb1 hb2
  have q0 : w2.cell? ⟨w.heap.size, 0, none⟩ = some (.int .i64 s) := cell_keep hbw (by simp) (by simp; try omega)
  have q1 : w2.cell? ⟨w.heap.size, 1, none⟩ = some (.int .i64 f) := cell_keep hbw (by simp) (by simp; try omega)
  have q2 : w2.cell? ⟨w.heap.size, 2, none⟩ = some (.int .i64 g) := cell_keep hbw (by simp) (by simp; try omega)
  have p0 : w2.cell? ⟨w.heap.size + 1, 0, none⟩ = some (.int .i64 0) := cell_keep hbw (by simp) (by simp)
  have fz0 : w2.frozen? ⟨w.heap.size + 1, 0, none⟩ = false := frozen_keep hbw (by simp) (by simp)
  have p1 : w2.cell? ⟨w.heap.size + 1, 1, none⟩ = some (.int .i64 0) := cell_keep hbw (by simp) (by simp)
  have fz1 : w2.frozen? ⟨w.heap.size + 1, 1, none⟩ = false := frozen_keep hbw (by simp) (by simp)
  have p2 : w2.cell? ⟨w.heap.size + 1, 2, none⟩ = some (.int .i64 0) := cell_keep hbw (by simp) (by simp)
  have fz2 : w2.frozen? ⟨w.heap.size + 1, 2, none⟩ = false := frozen_keep hbw (by simp) (by simp)
  have zl : w.heap.size + 1 < w2.heap.size := by have := hbw.size; simp at this; omega
  clear hbw
  have zn : w.heap.size + 1 ≠ w2.heap.size := by omega
  have zm : w.heap.size ≠ w2.heap.size := by omega
  have zk : w.heap.size < w2.heap.size := by omega
  go_wp2_with fail
  refine bodyPost_ret (v := .tuple #[.agg #[.int .i64 3, .int .i64 f, .int .i64 g], .slice none 0 0, .int .i64 (-1), .int .i64 0]) (by simp [results, Tryd.results28, go_sem, p0, p1, p2, zl, zn]) rfl ?_
  unfold StpPost
  rw [HE.out]
  have hb := HB2.out
  have zz : w.heap.size ≤ w2.heap.size := by omega
  exact ⟨none, 0, rfl, IWn.nil, by repeat' (first | with_reducible exact hb | with_reducible apply Below.setCell | with_reducible apply Below.alloc | (simp; done) | (simp [World.setCell]; omega) | omega)⟩
set_option maxRecDepth 100000 in
set_option maxHeartbeats 4000000 in
theorem rStep_4c (s f g e n : Int) (w : World) (h0 : chkR (s, f, g) = 0) (hn : n = -1) (hc : canR (s, f, g) e = true) (he : e = 4) (hs : s = 4) :
    Calls Tryd.prog 28 #[.agg #[.int .i64 s, .int .i64 f, .int .i64 g], .int .i64 e, .int .i64 n] w (StpPost (stpR (s, f, g) e n) w) := by
  subst he hn hs
  have HE : Hid (stpR (4, f, g) 4 (-1) = ((5, g, (-1)), thereF [f], g, 0)) := by
    show _ = _
    unfold stpR
    rw [if_neg (by simp [h0]), if_neg (by omega), if_neg (by omega), if_neg (by rw [hc]; simp), if_neg (by intro hh; have h1 := hh.1; have h2 := hh.2; simp at h1 h2; try omega)]
    rfl
  have HC := Lib.hid h0; have HA := Lib.hid hc
  clear h0 hc
  go_enter Tryd.func28, Tryd.ntmps28
  go_wp2_with fail
  refine (rCheck_any 4 f g _ HC.out).mono ?_
  rintro er w1 ⟨rfl, hb1⟩
  have q0 : w1.cell? ⟨w.heap.size, 0, none⟩ = some (.int .i64 4) := cell_keep hb1 (by simp) (by simp; try omega)
  have q1 : w1.cell? ⟨w.heap.size, 1, none⟩ = some (.int .i64 f) := cell_keep hb1 (by simp) (by simp; try omega)
  have q2 : w1.cell? ⟨w.heap.size, 2, none⟩ = some (.int .i64 g) := cell_keep hb1 (by simp) (by simp; try omega)
  have p0 : w1.cell? ⟨w.heap.size + 1, 0, none⟩ = some (.int .i64 0) := cell_keep hb1 (by simp) (by simp)
  have fz0 : w1.frozen? ⟨w.heap.size + 1, 0, none⟩ = false := frozen_keep hb1 (by simp) (by simp)
  have p1 : w1.cell? ⟨w.heap.size + 1, 1, none⟩ = some (.int .i64 0) := cell_keep hb1 (by simp) (by simp)
  have fz1 : w1.frozen? ⟨w.heap.size + 1, 1, none⟩ = false := frozen_keep hb1 (by simp) (by simp)
  have p2 : w1.cell? ⟨w.heap.size + 1, 2, none⟩ = some (.int .i64 0) := cell_keep hb1 (by simp) (by simp)
  have fz2 : w1.frozen? ⟨w.heap.size + 1, 2, none⟩ = false := frozen_keep hb1 (by simp) (by simp)
  have zl : w.heap.size + 1 < w1.heap.size := by have := hb1.size; simp at this; omega
  go_wp2_with fail
  refine (allows_any 4 f g 4 _ HC.out (by omega) (by omega)).mono ?_
  rw [HA.out]
  rintro er w2 ⟨rfl, hb2⟩
  have hbw : Below (w.heap.size + 2) ((w.alloc (.cells #[.int .i64 4, .int .i64 f, .int .i64 g] 23)).alloc (.cells #[.int .i64 0, .int .i64 0, .int .i64 0] 23)) w2 := by
    refine (show Below _ _ w1 from by simpa using hb1).trans (hb2.mono ?_)
    have := hb1.size; simp at this; omega
  have HB2 : Hid (Below w.heap.size w w2) := ((((Below.refl _ _).alloc (Nat.le_refl _) _).alloc (by simp) _).trans (hbw.mono (by omega)))
  clear q0 q1 q2 p0 p1 p2 fz0 fz1 fz2 zl hb1 hb2
  have q0 : w2.cell? ⟨w.heap.size, 0, none⟩ = some (.int .i64 4) := cell_keep hbw (by simp) (by simp; try omega)
  have q1 : w2.cell? ⟨w.heap.size, 1, none⟩ = some (.int .i64 f) := cell_keep hbw (by simp) (by simp; try omega)
  have q2 : w2.cell? ⟨w.heap.size, 2, none⟩ = some (.int .i64 g) := cell_keep hbw (by simp) (by simp; try omega)
  have p0 : w2.cell? ⟨w.heap.size + 1, 0, none⟩ = some (.int .i64 0) := cell_keep hbw (by simp) (by simp)
  have fz0 : w2.frozen? ⟨w.heap.size + 1, 0, none⟩ = false := frozen_keep hbw (by simp) (by simp)
  have p1 : w2.cell? ⟨w.heap.size + 1, 1, none⟩ = some (.int .i64 0) := cell_keep hbw (by simp) (by simp)
  have fz1 : w2.frozen? ⟨w.heap.size + 1, 1, none⟩ = false := frozen_keep hbw (by simp) (by simp)
  have p2 : w2.cell? ⟨w.heap.size + 1, 2, none⟩ = some (.int .i64 0) := cell_keep hbw (by simp) (by simp)
  have fz2 : w2.frozen? ⟨w.heap.size + 1, 2, none⟩ = false := frozen_keep hbw (by simp) (by simp)
  have zl : w.heap.size + 1 < w2.heap.size := by have := hbw.size; simp at this; omega
  clear hbw
  have zn : w.heap.size + 1 ≠ w2.heap.size := by omega
  have zm : w.heap.size ≠ w2.heap.size := by omega
  have zk : w.heap.size < w2.heap.size := by omega
  go_wp2_with fail
  refine (some_any _ 1 [f] _ ?hs (by simp)).mono ?_
  case hs => exact Sl.of_lit (t := 3) (xs := [f]) (Blk.new_ (by simp) rfl)
  rintro er w3 ⟨A3, c3, rfl, ho3, hb3⟩
  obtain ⟨U, hU⟩ : ∃ U, (w2.alloc (.cells #[.int .i64 5, .int .i64 g, .int .i64 (-1)] 23)).alloc (.cells #[.int .i64 f] 3) = U := ⟨_, rfl⟩
  have hBU : Below w2.heap.size w2 U := by rw [← hU]; exact ((Below.refl _ _).alloc (Nat.le_refl _) _).alloc (by simp) _
  have hkU : Blk U w2.heap.size 23 #[.int .i64 5, .int .i64 g, .int .i64 (-1)] := by rw [← hU]; exact Blk.alloc_ (Blk.new_ rfl rfl) _
  have hsU : U.heap.size = w2.heap.size + 2 := by rw [← hU]; simp
  rw [hU] at ho3 hb3
  clear hU
  have kU := hkU.below_ hb3 hkU.lt
  have hBW := hBU.trans (hb3.mono (by omega))
  have HI3 := Lib.hid (ho3.iwn (Nat.le_refl _))
  have HB3 := Lib.hid (HB2.out.trans (hBW.mono (by omega)))
  have s3 := hb3.size
  clear hkU ho3
  have q0_ := cell_keep hBW q0 (by show w.heap.size < _; omega)
  have q1_ := cell_keep hBW q1 (by show w.heap.size < _; omega)
  have q2_ := cell_keep hBW q2 (by show w.heap.size < _; omega)
  have p0_ := cell_keep hBW p0 (by show w.heap.size + 1 < _; omega)
  have p1_ := cell_keep hBW p1 (by show w.heap.size + 1 < _; omega)
  have p2_ := cell_keep hBW p2 (by show w.heap.size + 1 < _; omega)
  have g0_ := frozen_keep hBW fz0 (by show w.heap.size + 1 < _; omega)
  have g1_ := frozen_keep hBW fz1 (by show w.heap.size + 1 < _; omega)
  have g2_ := frozen_keep hBW fz2 (by show w.heap.size + 1 < _; omega)
  have t0 : w3.cell? ⟨w2.heap.size, 0, none⟩ = some (.int .i64 5) := (kU.cell_ 0).trans (by simp)
  have t1 : w3.cell? ⟨w2.heap.size, 1, none⟩ = some (.int .i64 g) := (kU.cell_ 1).trans (by simp)
  have t2 : w3.cell? ⟨w2.heap.size, 2, none⟩ = some (.int .i64 (-1)) := (kU.cell_ 2).trans (by simp)
  have zl3 : w.heap.size + 1 < w3.heap.size := by omega
  have HS := Lib.hid (And.intro hsU s3)
  clear q0 q1 q2 p0 p1 p2 fz0 fz1 fz2 hBU hb3 kU hBW hsU s3
  go_wp2_with fail
  refine bodyPost_ret (v := .tuple #[.agg #[.int .i64 5, .int .i64 g, .int .i64 (-1)], .slice A3 (thereF [f]).length c3, .int .i64 g, .int .i64 0]) (by simp [results, Tryd.results28, go_sem, p0_, p1_, p2_]) rfl ?_
  unfold StpPost
  rw [HE.out]
  have hs := HS.out
  exact ⟨A3, c3, rfl, (((HI3.out.far 0 _ (by omega)).far 1 _ (by omega)).far 2 _ (by omega)).mono (by omega), ((HB3.out.setCell (p := ⟨w.heap.size + 1, 0, none⟩) (show w.heap.size ≤ w.heap.size + 1 by omega) _).setCell (p := ⟨w.heap.size + 1, 1, none⟩) (show w.heap.size ≤ w.heap.size + 1 by omega) _).setCell (p := ⟨w.heap.size + 1, 2, none⟩) (show w.heap.size ≤ w.heap.size + 1 by omega) _⟩
set_option maxRecDepth 100000 in
set_option maxHeartbeats 4000000 in
theorem rStep_4w (s f g e n : Int) (w : World) (h0 : chkR (s, f, g) = 0) (hn : n = -1) (hc : canR (s, f, g) e = true) (he : e = 4) (hs : s ≠ 4) :
    Calls Tryd.prog 28 #[.agg #[.int .i64 s, .int .i64 f, .int .i64 g], .int .i64 e, .int .i64 n] w (StpPost (stpR (s, f, g) e n) w) := by
  subst he hn
  have hsb : (s == 4) = false := by simpa using hs
  have HE : Hid (stpR (s, f, g) 4 (-1) = ((s, f, (-1)), thereF [g], (-1), 0)) := by
    show _ = _
    unfold stpR
    rw [if_neg (by simp [h0]), if_neg (by omega), if_neg (by omega), if_neg (by rw [hc]; simp), if_neg (by intro hh; have h1 := hh.1; have h2 := hh.2; simp at h1 h2; try omega)]
    simp [aftR, hs]
  have HC := Lib.hid h0; have HA := Lib.hid hc
  clear hs
  clear h0 hc
  go_enter Tryd.func28, Tryd.ntmps28
  go_wp2_with fail
  refine (rCheck_any s f g _ HC.out).mono ?_
  rintro er w1 ⟨rfl, hb1⟩
  have q0 : w1.cell? ⟨w.heap.size, 0, none⟩ = some (.int .i64 s) := cell_keep hb1 (by simp) (by simp; try omega)
  have q1 : w1.cell? ⟨w.heap.size, 1, none⟩ = some (.int .i64 f) := cell_keep hb1 (by simp) (by simp; try omega)
  have q2 : w1.cell? ⟨w.heap.size, 2, none⟩ = some (.int .i64 g) := cell_keep hb1 (by simp) (by simp; try omega)
  have p0 : w1.cell? ⟨w.heap.size + 1, 0, none⟩ = some (.int .i64 0) := cell_keep hb1 (by simp) (by simp)
  have fz0 : w1.frozen? ⟨w.heap.size + 1, 0, none⟩ = false := frozen_keep hb1 (by simp) (by simp)
  have p1 : w1.cell? ⟨w.heap.size + 1, 1, none⟩ = some (.int .i64 0) := cell_keep hb1 (by simp) (by simp)
  have fz1 : w1.frozen? ⟨w.heap.size + 1, 1, none⟩ = false := frozen_keep hb1 (by simp) (by simp)
  have p2 : w1.cell? ⟨w.heap.size + 1, 2, none⟩ = some (.int .i64 0) := cell_keep hb1 (by simp) (by simp)
  have fz2 : w1.frozen? ⟨w.heap.size + 1, 2, none⟩ = false := frozen_keep hb1 (by simp) (by simp)
  have zl : w.heap.size + 1 < w1.heap.size := by have := hb1.size; simp at this; omega
  go_wp2_with fail
  refine (allows_any s f g 4 _ HC.out (by omega) (by omega)).mono ?_
  rw [HA.out]
  rintro er w2 ⟨rfl, hb2⟩
  have hbw : Below (w.heap.size + 2) ((w.alloc (.cells #[.int .i64 s, .int .i64 f, .int .i64 g] 23)).alloc (.cells #[.int .i64 0, .int .i64 0, .int .i64 0] 23)) w2 := by
    refine (show Below _ _ w1 from by simpa using hb1).trans (hb2.mono ?_)
    have := hb1.size; simp at this; omega
  have HB2 : Hid (Below w.heap.size w w2) := ((((Below.refl _ _).alloc (Nat.le_refl _) _).alloc (by simp) _).trans (hbw.mono (by omega)))
  clear q0 q1 q2 p0 p1 p2 fz0 fz1 fz2 zl hb1 hb2
  have q0 : w2.cell? ⟨w.heap.size, 0, none⟩ = some (.int .i64 s) := cell_keep hbw (by simp) (by simp; try omega)
  have q1 : w2.cell? ⟨w.heap.size, 1, none⟩ = some (.int .i64 f) := cell_keep hbw (by simp) (by simp; try omega)
  have q2 : w2.cell? ⟨w.heap.size, 2, none⟩ = some (.int .i64 g) := cell_keep hbw (by simp) (by simp; try omega)
  have p0 : w2.cell? ⟨w.heap.size + 1, 0, none⟩ = some (.int .i64 0) := cell_keep hbw (by simp) (by simp)
  have fz0 : w2.frozen? ⟨w.heap.size + 1, 0, none⟩ = false := frozen_keep hbw (by simp) (by simp)
  have p1 : w2.cell? ⟨w.heap.size + 1, 1, none⟩ = some (.int .i64 0) := cell_keep hbw (by simp) (by simp)
  have fz1 : w2.frozen? ⟨w.heap.size + 1, 1, none⟩ = false := frozen_keep hbw (by simp) (by simp)
  have p2 : w2.cell? ⟨w.heap.size + 1, 2, none⟩ = some (.int .i64 0) := cell_keep hbw (by simp) (by simp)
  have fz2 : w2.frozen? ⟨w.heap.size + 1, 2, none⟩ = false := frozen_keep hbw (by simp) (by simp)
  have zl : w.heap.size + 1 < w2.heap.size := by have := hbw.size; simp at this; omega
  clear hbw
  have zn : w.heap.size + 1 ≠ w2.heap.size := by omega
  have zm : w.heap.size ≠ w2.heap.size := by omega
  have zk : w.heap.size < w2.heap.size := by omega
  go_wp2_with fail
  refine (some_any _ 1 [g] _ ?hs (by simp)).mono ?_
  case hs => exact Sl.of_lit (t := 3) (xs := [g]) (Blk.new_ (by simp) rfl)
  rintro er w3 ⟨A3, c3, rfl, ho3, hb3⟩
  obtain ⟨U, hU⟩ : ∃ U, (w2.alloc (.cells #[.int .i64 s, .int .i64 f, .int .i64 (-1)] 23)).alloc (.cells #[.int .i64 g] 3) = U := ⟨_, rfl⟩
  have hBU : Below w2.heap.size w2 U := by rw [← hU]; exact ((Below.refl _ _).alloc (Nat.le_refl _) _).alloc (by simp) _
  have hkU : Blk U w2.heap.size 23 #[.int .i64 s, .int .i64 f, .int .i64 (-1)] := by rw [← hU]; exact Blk.alloc_ (Blk.new_ rfl rfl) _
  have hsU : U.heap.size = w2.heap.size + 2 := by rw [← hU]; simp
  rw [hU] at ho3 hb3
  clear hU
  have kU := hkU.below_ hb3 hkU.lt
  have hBW := hBU.trans (hb3.mono (by omega))
  have HI3 := Lib.hid (ho3.iwn (Nat.le_refl _))
  have HB3 := Lib.hid (HB2.out.trans (hBW.mono (by omega)))
  have s3 := hb3.size
  clear hkU ho3
  have q0_ := cell_keep hBW q0 (by show w.heap.size < _; omega)
  have q1_ := cell_keep hBW q1 (by show w.heap.size < _; omega)
  have q2_ := cell_keep hBW q2 (by show w.heap.size < _; omega)
  have p0_ := cell_keep hBW p0 (by show w.heap.size + 1 < _; omega)
  have p1_ := cell_keep hBW p1 (by show w.heap.size + 1 < _; omega)
  have p2_ := cell_keep hBW p2 (by show w.heap.size + 1 < _; omega)
  have g0_ := frozen_keep hBW fz0 (by show w.heap.size + 1 < _; omega)
  have g1_ := frozen_keep hBW fz1 (by show w.heap.size + 1 < _; omega)
  have g2_ := frozen_keep hBW fz2 (by show w.heap.size + 1 < _; omega)
  have t0 : w3.cell? ⟨w2.heap.size, 0, none⟩ = some (.int .i64 s) := (kU.cell_ 0).trans (by simp)
  have t1 : w3.cell? ⟨w2.heap.size, 1, none⟩ = some (.int .i64 f) := (kU.cell_ 1).trans (by simp)
  have t2 : w3.cell? ⟨w2.heap.size, 2, none⟩ = some (.int .i64 (-1)) := (kU.cell_ 2).trans (by simp)
  have zl3 : w.heap.size + 1 < w3.heap.size := by omega
  have HS := Lib.hid (And.intro hsU s3)
  clear q0 q1 q2 p0 p1 p2 fz0 fz1 fz2 hBU hb3 kU hBW hsU s3
  go_wp2_with fail
  refine bodyPost_ret (v := .tuple #[.agg #[.int .i64 s, .int .i64 f, .int .i64 (-1)], .slice A3 (thereF [g]).length c3, .int .i64 (-1), .int .i64 0]) (by simp [results, Tryd.results28, go_sem, p0_, p1_, p2_]) rfl ?_
  unfold StpPost
  rw [HE.out]
  have hs := HS.out
  exact ⟨A3, c3, rfl, (((HI3.out.far 0 _ (by omega)).far 1 _ (by omega)).far 2 _ (by omega)).mono (by omega), ((HB3.out.setCell (p := ⟨w.heap.size + 1, 0, none⟩) (show w.heap.size ≤ w.heap.size + 1 by omega) _).setCell (p := ⟨w.heap.size + 1, 1, none⟩) (show w.heap.size ≤ w.heap.size + 1 by omega) _).setCell (p := ⟨w.heap.size + 1, 2, none⟩) (show w.heap.size ≤ w.heap.size + 1 by omega) _⟩
set_option maxRecDepth 100000 in
set_option maxHeartbeats 4000000 in
theorem rStep_5d (s f g e n : Int) (w : World) (h0 : chkR (s, f, g) = 0) (hn : n = -1) (hc : canR (s, f, g) e = true) (he : e = 5) (hs : s = 6) :
    Calls Tryd.prog 28 #[.agg #[.int .i64 s, .int .i64 f, .int .i64 g], .int .i64 e, .int .i64 n] w (StpPost (stpR (s, f, g) e n) w) := by
  subst he hn hs
  obtain rfl : g = -1 := by simpa [canR] using hc
  have HE : Hid (stpR (6, f, -1) 5 (-1) = ((8, (-1), (-1)), thereF [f], (-1), 0)) := by
    show _ = _
    unfold stpR
    rw [if_neg (by simp [h0]), if_neg (by omega), if_neg (by omega), if_neg (by rw [hc]; simp), if_neg (by intro hh; have h1 := hh.1; have h2 := hh.2; simp at h1 h2; try omega)]
    rfl
  have HC := Lib.hid h0; have HA := Lib.hid hc
  clear h0 hc
  go_enter Tryd.func28, Tryd.ntmps28
  go_wp2_with fail
  refine (rCheck_any 6 f (-1) _ HC.out).mono ?_
  rintro er w1 ⟨rfl, hb1⟩
  have q0 : w1.cell? ⟨w.heap.size, 0, none⟩ = some (.int .i64 6) := cell_keep hb1 (by simp) (by simp; try omega)
  have q1 : w1.cell? ⟨w.heap.size, 1, none⟩ = some (.int .i64 f) := cell_keep hb1 (by simp) (by simp; try omega)
  have q2 : w1.cell? ⟨w.heap.size, 2, none⟩ = some (.int .i64 (-1)) := cell_keep hb1 (by simp) (by simp; try omega)
  have p0 : w1.cell? ⟨w.heap.size + 1, 0, none⟩ = some (.int .i64 0) := cell_keep hb1 (by simp) (by simp)
  have fz0 : w1.frozen? ⟨w.heap.size + 1, 0, none⟩ = false := frozen_keep hb1 (by simp) (by simp)
  have p1 : w1.cell? ⟨w.heap.size + 1, 1, none⟩ = some (.int .i64 0) := cell_keep hb1 (by simp) (by simp)
  have fz1 : w1.frozen? ⟨w.heap.size + 1, 1, none⟩ = false := frozen_keep hb1 (by simp) (by simp)
  have p2 : w1.cell? ⟨w.heap.size + 1, 2, none⟩ = some (.int .i64 0) := cell_keep hb1 (by simp) (by simp)
  have fz2 : w1.frozen? ⟨w.heap.size + 1, 2, none⟩ = false := frozen_keep hb1 (by simp) (by simp)
  have zl : w.heap.size + 1 < w1.heap.size := by have := hb1.size; simp at this; omega
  go_wp2_with fail
  refine (allows_any 6 f (-1) 5 _ HC.out (by omega) (by omega)).mono ?_
  rw [HA.out]
  rintro er w2 ⟨rfl, hb2⟩
  have hbw : Below (w.heap.size + 2) ((w.alloc (.cells #[.int .i64 6, .int .i64 f, .int .i64 (-1)] 23)).alloc (.cells #[.int .i64 0, .int .i64 0, .int .i64 0] 23)) w2 := by
    refine (show Below _ _ w1 from by simpa using hb1).trans (hb2.mono ?_)
    have := hb1.size; simp at this; omega
  have HB2 : Hid (Below w.heap.size w w2) := ((((Below.refl _ _).alloc (Nat.le_refl _) _).alloc (by simp) _).trans (hbw.mono (by omega)))
  clear q0 q1 q2 p0 p1 p2 fz0 fz1 fz2 zl hb1 hb2
  have q0 : w2.cell? ⟨w.heap.size, 0, none⟩ = some (.int .i64 6) := cell_keep hbw (by simp) (by simp; try omega)
  have q1 : w2.cell? ⟨w.heap.size, 1, none⟩ = some (.int .i64 f) := cell_keep hbw (by simp) (by simp; try omega)
  have q2 : w2.cell? ⟨w.heap.size, 2, none⟩ = some (.int .i64 (-1)) := cell_keep hbw (by simp) (by simp; try omega)
  have p0 : w2.cell? ⟨w.heap.size + 1, 0, none⟩ = some (.int .i64 0) := cell_keep hbw (by simp) (by simp)
  have fz0 : w2.frozen? ⟨w.heap.size + 1, 0, none⟩ = false := frozen_keep hbw (by simp) (by simp)
  have p1 : w2.cell? ⟨w.heap.size + 1, 1, none⟩ = some (.int .i64 0) := cell_keep hbw (by simp) (by simp)
  have fz1 : w2.frozen? ⟨w.heap.size + 1, 1, none⟩ = false := frozen_keep hbw (by simp) (by simp)
  have p2 : w2.cell? ⟨w.heap.size + 1, 2, none⟩ = some (.int .i64 0) := cell_keep hbw (by simp) (by simp)
  have fz2 : w2.frozen? ⟨w.heap.size + 1, 2, none⟩ = false := frozen_keep hbw (by simp) (by simp)
  have zl : w.heap.size + 1 < w2.heap.size := by have := hbw.size; simp at this; omega
  clear hbw
  have zn : w.heap.size + 1 ≠ w2.heap.size := by omega
  have zm : w.heap.size ≠ w2.heap.size := by omega
  have zk : w.heap.size < w2.heap.size := by omega
  go_wp2_with fail
  refine (some_any _ 1 [f] _ ?hs (by simp)).mono ?_
  case hs => exact Sl.of_lit (t := 3) (xs := [f]) (Blk.new_ (by simp) rfl)
  rintro er w3 ⟨A3, c3, rfl, ho3, hb3⟩
  obtain ⟨U, hU⟩ : ∃ U, (w2.alloc (.cells #[.int .i64 8, .int .i64 (-1), .int .i64 (-1)] 23)).alloc (.cells #[.int .i64 f] 3) = U := ⟨_, rfl⟩
  have hBU : Below w2.heap.size w2 U := by rw [← hU]; exact ((Below.refl _ _).alloc (Nat.le_refl _) _).alloc (by simp) _
  have hkU : Blk U w2.heap.size 23 #[.int .i64 8, .int .i64 (-1), .int .i64 (-1)] := by rw [← hU]; exact Blk.alloc_ (Blk.new_ rfl rfl) _
  have hsU : U.heap.size = w2.heap.size + 2 := by rw [← hU]; simp
  rw [hU] at ho3 hb3
  clear hU
  have kU := hkU.below_ hb3 hkU.lt
  have hBW := hBU.trans (hb3.mono (by omega))
  have HI3 := Lib.hid (ho3.iwn (Nat.le_refl _))
  have HB3 := Lib.hid (HB2.out.trans (hBW.mono (by omega)))
  have s3 := hb3.size
  clear hkU ho3
  have q0_ := cell_keep hBW q0 (by show w.heap.size < _; omega)
  have q1_ := cell_keep hBW q1 (by show w.heap.size < _; omega)
  have q2_ := cell_keep hBW q2 (by show w.heap.size < _; omega)
  have p0_ := cell_keep hBW p0 (by show w.heap.size + 1 < _; omega)
  have p1_ := cell_keep hBW p1 (by show w.heap.size + 1 < _; omega)
  have p2_ := cell_keep hBW p2 (by show w.heap.size + 1 < _; omega)
  have g0_ := frozen_keep hBW fz0 (by show w.heap.size + 1 < _; omega)
  have g1_ := frozen_keep hBW fz1 (by show w.heap.size + 1 < _; omega)
  have g2_ := frozen_keep hBW fz2 (by show w.heap.size + 1 < _; omega)
  have t0 : w3.cell? ⟨w2.heap.size, 0, none⟩ = some (.int .i64 8) := (kU.cell_ 0).trans (by simp)
  have t1 : w3.cell? ⟨w2.heap.size, 1, none⟩ = some (.int .i64 (-1)) := (kU.cell_ 1).trans (by simp)
  have t2 : w3.cell? ⟨w2.heap.size, 2, none⟩ = some (.int .i64 (-1)) := (kU.cell_ 2).trans (by simp)
  have zl3 : w.heap.size + 1 < w3.heap.size := by omega
  have HS := Lib.hid (And.intro hsU s3)
  clear q0 q1 q2 p0 p1 p2 fz0 fz1 fz2 hBU hb3 kU hBW hsU s3
  go_wp2_with fail
  refine bodyPost_ret (v := .tuple #[.agg #[.int .i64 8, .int .i64 (-1), .int .i64 (-1)], .slice A3 (thereF [f]).length c3, .int .i64 (-1), .int .i64 0]) (by simp [results, Tryd.results28, go_sem, p0_, p1_, p2_]) rfl ?_
  unfold StpPost
  rw [HE.out]
  have hs := HS.out
  exact ⟨A3, c3, rfl, (((HI3.out.far 0 _ (by omega)).far 1 _ (by omega)).far 2 _ (by omega)).mono (by omega), ((HB3.out.setCell (p := ⟨w.heap.size + 1, 0, none⟩) (show w.heap.size ≤ w.heap.size + 1 by omega) _).setCell (p := ⟨w.heap.size + 1, 1, none⟩) (show w.heap.size ≤ w.heap.size + 1 by omega) _).setCell (p := ⟨w.heap.size + 1, 2, none⟩) (show w.heap.size ≤ w.heap.size + 1 by omega) _⟩
set_option maxRecDepth 100000 in
set_option maxHeartbeats 4000000 in
theorem rStep_5r (s f g e n : Int) (w : World) (h0 : chkR (s, f, g) = 0) (hn : n = -1) (hc : canR (s, f, g) e = true) (he : e = 5) (hs : s = 3) :
    Calls Tryd.prog 28 #[.agg #[.int .i64 s, .int .i64 f, .int .i64 g], .int .i64 e, .int .i64 n] w (StpPost (stpR (s, f, g) e n) w) := by
  subst he hn hs
  obtain rfl : g = -1 := by simpa [canR] using hc
  have HE : Hid (stpR (3, f, -1) 5 (-1) = ((5, f, (-1)), [], f, 0)) := by
    show _ = _
    unfold stpR
    rw [if_neg (by simp [h0]), if_neg (by omega), if_neg (by omega), if_neg (by rw [hc]; simp), if_neg (by intro hh; have h1 := hh.1; have h2 := hh.2; simp at h1 h2; try omega)]
    rfl
  have HC := Lib.hid h0; have HA := Lib.hid hc
  clear h0 hc
  go_enter Tryd.func28, Tryd.ntmps28
  go_wp2_with fail
  refine (rCheck_any 3 f (-1) _ HC.out).mono ?_
  rintro er w1 ⟨rfl, hb1⟩
  have q0 : w1.cell? ⟨w.heap.size, 0, none⟩ = some (.int .i64 3) := cell_keep hb1 (by simp) (by simp; try omega)
  have q1 : w1.cell? ⟨w.heap.size, 1, none⟩ = some (.int .i64 f) := cell_keep hb1 (by simp) (by simp; try omega)
  have q2 : w1.cell? ⟨w.heap.size, 2, none⟩ = some (.int .i64 (-1)) := cell_keep hb1 (by simp) (by simp; try omega)
  have p0 : w1.cell? ⟨w.heap.size + 1, 0, none⟩ = some (.int .i64 0) := cell_keep hb1 (by simp) (by simp)
  have fz0 : w1.frozen? ⟨w.heap.size + 1, 0, none⟩ = false := frozen_keep hb1 (by simp) (by simp)
  have p1 : w1.cell? ⟨w.heap.size + 1, 1, none⟩ = some (.int .i64 0) := cell_keep hb1 (by simp) (by simp)
  have fz1 : w1.frozen? ⟨w.heap.size + 1, 1, none⟩ = false := frozen_keep hb1 (by simp) (by simp)
  have p2 : w1.cell? ⟨w.heap.size + 1, 2, none⟩ = some (.int .i64 0) := cell_keep hb1 (by simp) (by simp)
  have fz2 : w1.frozen? ⟨w.heap.size + 1, 2, none⟩ = false := frozen_keep hb1 (by simp) (by simp)
  have zl : w.heap.size + 1 < w1.heap.size := by have := hb1.size; simp at this; omega
  go_wp2_with fail
  refine (allows_any 3 f (-1) 5 _ HC.out (by omega) (by omega)).mono ?_
  rw [HA.out]
  rintro er w2 ⟨rfl, hb2⟩
  have hbw : Below (w.heap.size + 2) ((w.alloc (.cells #[.int .i64 3, .int .i64 f, .int .i64 (-1)] 23)).alloc (.cells #[.int .i64 0, .int .i64 0, .int .i64 0] 23)) w2 := by
    refine (show Below _ _ w1 from by simpa using hb1).trans (hb2.mono ?_)
    have := hb1.size; simp at this; omega
  have HB2 : Hid (Below w.heap.size w w2) := ((((Below.refl _ _).alloc (Nat.le_refl _) _).alloc (by simp) _).trans (hbw.mono (by omega)))
  clear q0 q1 q2 p0 p1 p2 fz0 fz1 fz2 zl hb1 hb2
  have q0 : w2.cell? ⟨w.heap.size, 0, none⟩ = some (.int .i64 3) := cell_keep hbw (by simp) (by simp; try omega)
  have q1 : w2.cell? ⟨w.heap.size, 1, none⟩ = some (.int .i64 f) := cell_keep hbw (by simp) (by simp; try omega)
  have q2 : w2.cell? ⟨w.heap.size, 2, none⟩ = some (.int .i64 (-1)) := cell_keep hbw (by simp) (by simp; try omega)
  have p0 : w2.cell? ⟨w.heap.size + 1, 0, none⟩ = some (.int .i64 0) := cell_keep hbw (by simp) (by simp)
  have fz0 : w2.frozen? ⟨w.heap.size + 1, 0, none⟩ = false := frozen_keep hbw (by simp) (by simp)
  have p1 : w2.cell? ⟨w.heap.size + 1, 1, none⟩ = some (.int .i64 0) := cell_keep hbw (by simp) (by simp)
  have fz1 : w2.frozen? ⟨w.heap.size + 1, 1, none⟩ = false := frozen_keep hbw (by simp) (by simp)
  have p2 : w2.cell? ⟨w.heap.size + 1, 2, none⟩ = some (.int .i64 0) := cell_keep hbw (by simp) (by simp)
  have fz2 : w2.frozen? ⟨w.heap.size + 1, 2, none⟩ = false := frozen_keep hbw (by simp) (by simp)
  have zl : w.heap.size + 1 < w2.heap.size := by have := hbw.size; simp at this; omega
  clear hbw
  have zn : w.heap.size + 1 ≠ w2.heap.size := by omega
  have zm : w.heap.size ≠ w2.heap.size := by omega
  have zk : w.heap.size < w2.heap.size := by omega
  go_wp2_with fail
  refine bodyPost_ret (v := .tuple #[.agg #[.int .i64 5, .int .i64 f, .int .i64 (-1)], .slice none 0 0, .int .i64 f, .int .i64 0]) (by simp [results, Tryd.results28, go_sem, p0, p1, p2, zl, zn]) rfl ?_
  unfold StpPost
  rw [HE.out]
  have hb := HB2.out
  have zz : w.heap.size ≤ w2.heap.size := by omega
  exact ⟨none, 0, rfl, IWn.nil, by repeat' (first | with_reducible exact hb | with_reducible apply Below.setCell | with_reducible apply Below.alloc | (simp; done) | (simp [World.setCell]; omega) | omega)⟩
set_option maxRecDepth 100000 in
set_option maxHeartbeats 4000000 in
theorem rStep_6o (s f g e n : Int) (w : World) (h0 : chkR (s, f, g) = 0) (hn : n = -1) (hc : canR (s, f, g) e = true) (he : e = 6) (hs : s = 3) :
    Calls Tryd.prog 28 #[.agg #[.int .i64 s, .int .i64 f, .int .i64 g], .int .i64 e, .int .i64 n] w (StpPost (stpR (s, f, g) e n) w) := by
  subst he hn hs
  have HE : Hid (stpR (3, f, g) 6 (-1) = ((6, f, g), [], (-1), 0)) := by
    show _ = _
    unfold stpR
    rw [if_neg (by simp [h0]), if_neg (by omega), if_neg (by omega), if_neg (by rw [hc]; simp), if_neg (by intro hh; have h1 := hh.1; have h2 := hh.2; simp at h1 h2; try omega)]
    rfl
  have HC := Lib.hid h0; have HA := Lib.hid hc
  clear h0 hc
  go_enter Tryd.func28, Tryd.ntmps28
  go_wp2_with fail
  refine (rCheck_any 3 f g _ HC.out).mono ?_
  rintro er w1 ⟨rfl, hb1⟩
  have q0 : w1.cell? ⟨w.heap.size, 0, none⟩ = some (.int .i64 3) := cell_keep hb1 (by simp) (by simp; try omega)
  have q1 : w1.cell? ⟨w.heap.size, 1, none⟩ = some (.int .i64 f) := cell_keep hb1 (by simp) (by simp; try omega)
  have q2 : w1.cell? ⟨w.heap.size, 2, none⟩ = some (.int .i64 g) := cell_keep hb1 (by simp) (by simp; try omega)
  have p0 : w1.cell? ⟨w.heap.size + 1, 0, none⟩ = some (.int .i64 0) := cell_keep hb1 (by simp) (by simp)
  have fz0 : w1.frozen? ⟨w.heap.size + 1, 0, none⟩ = false := frozen_keep hb1 (by simp) (by simp)
  have p1 : w1.cell? ⟨w.heap.size + 1, 1, none⟩ = some (.int .i64 0) := cell_keep hb1 (by simp) (by simp)
  have fz1 : w1.frozen? ⟨w.heap.size + 1, 1, none⟩ = false := frozen_keep hb1 (by simp) (by simp)
  have p2 : w1.cell? ⟨w.heap.size + 1, 2, none⟩ = some (.int .i64 0) := cell_keep hb1 (by simp) (by simp)
  have fz2 : w1.frozen? ⟨w.heap.size + 1, 2, none⟩ = false := frozen_keep hb1 (by simp) (by simp)
  have zl : w.heap.size + 1 < w1.heap.size := by have := hb1.size; simp at this; omega
  go_wp2_with fail
  refine (allows_any 3 f g 6 _ HC.out (by omega) (by omega)).mono ?_
  rw [HA.out]
  rintro er w2 ⟨rfl, hb2⟩
  have hbw : Below (w.heap.size + 2) ((w.alloc (.cells #[.int .i64 3, .int .i64 f, .int .i64 g] 23)).alloc (.cells #[.int .i64 0, .int .i64 0, .int .i64 0] 23)) w2 := by
    refine (show Below _ _ w1 from by simpa using hb1).trans (hb2.mono ?_)
    have := hb1.size; simp at this; omega
  have HB2 : Hid (Below w.heap.size w w2) := ((((Below.refl _ _).alloc (Nat.le_refl _) _).alloc (by simp) _).trans (hbw.mono (by omega)))
  clear q0 q1 q2 p0 p1 p2 fz0 fz1 fz2 zl hb1 hb2
  have q0 : w2.cell? ⟨w.heap.size, 0, none⟩ = some (.int .i64 3) := cell_keep hbw (by simp) (by simp; try omega)
  have q1 : w2.cell? ⟨w.heap.size, 1, none⟩ = some (.int .i64 f) := cell_keep hbw (by simp) (by simp; try omega)
  have q2 : w2.cell? ⟨w.heap.size, 2, none⟩ = some (.int .i64 g) := cell_keep hbw (by simp) (by simp; try omega)
  have p0 : w2.cell? ⟨w.heap.size + 1, 0, none⟩ = some (.int .i64 0) := cell_keep hbw (by simp) (by simp)
  have fz0 : w2.frozen? ⟨w.heap.size + 1, 0, none⟩ = false := frozen_keep hbw (by simp) (by simp)
  have p1 : w2.cell? ⟨w.heap.size + 1, 1, none⟩ = some (.int .i64 0) := cell_keep hbw (by simp) (by simp)
  have fz1 : w2.frozen? ⟨w.heap.size + 1, 1, none⟩ = false := frozen_keep hbw (by simp) (by simp)
  have p2 : w2.cell? ⟨w.heap.size + 1, 2, none⟩ = some (.int .i64 0) := cell_keep hbw (by simp) (by simp)
  have fz2 : w2.frozen? ⟨w.heap.size + 1, 2, none⟩ = false := frozen_keep hbw (by simp) (by simp)
  have zl : w.heap.size + 1 < w2.heap.size := by have := hbw.size; simp at this; omega
  clear hbw
  have zn : w.heap.size + 1 ≠ w2.heap.size := by omega
  have zm : w.heap.size ≠ w2.heap.size := by omega
  have zk : w.heap.size < w2.heap.size := by omega
  go_wp2_with fail
  refine bodyPost_ret (v := .tuple #[.agg #[.int .i64 6, .int .i64 f, .int .i64 g], .slice none 0 0, .int .i64 (-1), .int .i64 0]) (by simp [results, Tryd.results28, go_sem, p0, p1, p2, zl, zn]) rfl ?_
  unfold StpPost
  rw [HE.out]
  have hb := HB2.out
  have zz : w.heap.size ≤ w2.heap.size := by omega
  exact ⟨none, 0, rfl, IWn.nil, by repeat' (first | with_reducible exact hb | with_reducible apply Below.setCell | with_reducible apply Below.alloc | (simp; done) | (simp [World.setCell]; omega) | omega)⟩
set_option maxRecDepth 100000 in
set_option maxHeartbeats 4000000 in
theorem rStep_6g (s f g e n : Int) (w : World) (h0 : chkR (s, f, g) = 0) (hn : n = -1) (hc : canR (s, f, g) e = true) (he : e = 6) (hs : s ≠ 3) :
    Calls Tryd.prog 28 #[.agg #[.int .i64 s, .int .i64 f, .int .i64 g], .int .i64 e, .int .i64 n] w (StpPost (stpR (s, f, g) e n) w) := by
  subst he hn
  have hsb : (s == 3) = false := by simpa using hs
  have HE : Hid (stpR (s, f, g) 6 (-1) = ((7, (-1), g), thereF [f], (-1), 0)) := by
    show _ = _
    unfold stpR
    rw [if_neg (by simp [h0]), if_neg (by omega), if_neg (by omega), if_neg (by rw [hc]; simp), if_neg (by intro hh; have h1 := hh.1; have h2 := hh.2; simp at h1 h2; try omega)]
    simp [aftR, hs]
  have HC := Lib.hid h0; have HA := Lib.hid hc
  clear hs
  clear h0 hc
  go_enter Tryd.func28, Tryd.ntmps28
  go_wp2_with fail
  refine (rCheck_any s f g _ HC.out).mono ?_
  rintro er w1 ⟨rfl, hb1⟩
  have q0 : w1.cell? ⟨w.heap.size, 0, none⟩ = some (.int .i64 s) := cell_keep hb1 (by simp) (by simp; try omega)
  have q1 : w1.cell? ⟨w.heap.size, 1, none⟩ = some (.int .i64 f) := cell_keep hb1 (by simp) (by simp; try omega)
  have q2 : w1.cell? ⟨w.heap.size, 2, none⟩ = some (.int .i64 g) := cell_keep hb1 (by simp) (by simp; try omega)
  have p0 : w1.cell? ⟨w.heap.size + 1, 0, none⟩ = some (.int .i64 0) := cell_keep hb1 (by simp) (by simp)
  have fz0 : w1.frozen? ⟨w.heap.size + 1, 0, none⟩ = false := frozen_keep hb1 (by simp) (by simp)
  have p1 : w1.cell? ⟨w.heap.size + 1, 1, none⟩ = some (.int .i64 0) := cell_keep hb1 (by simp) (by simp)
  have fz1 : w1.frozen? ⟨w.heap.size + 1, 1, none⟩ = false := frozen_keep hb1 (by simp) (by simp)
  have p2 : w1.cell? ⟨w.heap.size + 1, 2, none⟩ = some (.int .i64 0) := cell_keep hb1 (by simp) (by simp)
  have fz2 : w1.frozen? ⟨w.heap.size + 1, 2, none⟩ = false := frozen_keep hb1 (by simp) (by simp)
  have zl : w.heap.size + 1 < w1.heap.size := by have := hb1.size; simp at this; omega
  go_wp2_with fail
  refine (allows_any s f g 6 _ HC.out (by omega) (by omega)).mono ?_
  rw [HA.out]
  rintro er w2 ⟨rfl, hb2⟩
  have hbw : Below (w.heap.size + 2) ((w.alloc (.cells #[.int .i64 s, .int .i64 f, .int .i64 g] 23)).alloc (.cells #[.int .i64 0, .int .i64 0, .int .i64 0] 23)) w2 := by
    refine (show Below _ _ w1 from by simpa using hb1).trans (hb2.mono ?_)
    have := hb1.size; simp at this; omega
  have HB2 : Hid (Below w.heap.size w w2) := ((((Below.refl _ _).alloc (Nat.le_refl _) _).alloc (by simp) _).trans (hbw.mono (by omega)))
  clear q0 q1 q2 p0 p1 p2 fz0 fz1 fz2 zl hb1 hb2
  have q0 : w2.cell? ⟨w.heap.size, 0, none⟩ = some (.int .i64 s) := cell_keep hbw (by simp) (by simp; try omega)
  have q1 : w2.cell? ⟨w.heap.size, 1, none⟩ = some (.int .i64 f) := cell_keep hbw (by simp) (by simp; try omega)
  have q2 : w2.cell? ⟨w.heap.size, 2, none⟩ = some (.int .i64 g) := cell_keep hbw (by simp) (by simp; try omega)
  have p0 : w2.cell? ⟨w.heap.size + 1, 0, none⟩ = some (.int .i64 0) := cell_keep hbw (by simp) (by simp)
  have fz0 : w2.frozen? ⟨w.heap.size + 1, 0, none⟩ = false := frozen_keep hbw (by simp) (by simp)
  have p1 : w2.cell? ⟨w.heap.size + 1, 1, none⟩ = some (.int .i64 0) := cell_keep hbw (by simp) (by simp)
  have fz1 : w2.frozen? ⟨w.heap.size + 1, 1, none⟩ = false := frozen_keep hbw (by simp) (by simp)
  have p2 : w2.cell? ⟨w.heap.size + 1, 2, none⟩ = some (.int .i64 0) := cell_keep hbw (by simp) (by simp)
  have fz2 : w2.frozen? ⟨w.heap.size + 1, 2, none⟩ = false := frozen_keep hbw (by simp) (by simp)
  have zl : w.heap.size + 1 < w2.heap.size := by have := hbw.size; simp at this; omega
  clear hbw
  have zn : w.heap.size + 1 ≠ w2.heap.size := by omega
  have zm : w.heap.size ≠ w2.heap.size := by omega
  have zk : w.heap.size < w2.heap.size := by omega
  go_wp2_with fail
  refine (some_any _ 1 [f] _ ?hs (by simp)).mono ?_
  case hs => exact Sl.of_lit (t := 3) (xs := [f]) (Blk.new_ (by simp) rfl)
  rintro er w3 ⟨A3, c3, rfl, ho3, hb3⟩
  obtain ⟨U, hU⟩ : ∃ U, (w2.alloc (.cells #[.int .i64 7, .int .i64 (-1), .int .i64 g] 23)).alloc (.cells #[.int .i64 f] 3) = U := ⟨_, rfl⟩
  have hBU : Below w2.heap.size w2 U := by rw [← hU]; exact ((Below.refl _ _).alloc (Nat.le_refl _) _).alloc (by simp) _
  have hkU : Blk U w2.heap.size 23 #[.int .i64 7, .int .i64 (-1), .int .i64 g] := by rw [← hU]; exact Blk.alloc_ (Blk.new_ rfl rfl) _
  have hsU : U.heap.size = w2.heap.size + 2 := by rw [← hU]; simp
  rw [hU] at ho3 hb3
  clear hU
  have kU := hkU.below_ hb3 hkU.lt
  have hBW := hBU.trans (hb3.mono (by omega))
  have HI3 := Lib.hid (ho3.iwn (Nat.le_refl _))
  have HB3 := Lib.hid (HB2.out.trans (hBW.mono (by omega)))
  have s3 := hb3.size
  clear hkU ho3
  have q0_ := cell_keep hBW q0 (by show w.heap.size < _; omega)
  have q1_ := cell_keep hBW q1 (by show w.heap.size < _; omega)
  have q2_ := cell_keep hBW q2 (by show w.heap.size < _; omega)
  have p0_ := cell_keep hBW p0 (by show w.heap.size + 1 < _; omega)
  have p1_ := cell_keep hBW p1 (by show w.heap.size + 1 < _; omega)
  have p2_ := cell_keep hBW p2 (by show w.heap.size + 1 < _; omega)
  have g0_ := frozen_keep hBW fz0 (by show w.heap.size + 1 < _; omega)
  have g1_ := frozen_keep hBW fz1 (by show w.heap.size + 1 < _; omega)
  have g2_ := frozen_keep hBW fz2 (by show w.heap.size + 1 < _; omega)
  have t0 : w3.cell? ⟨w2.heap.size, 0, none⟩ = some (.int .i64 7) := (kU.cell_ 0).trans (by simp)
  have t1 : w3.cell? ⟨w2.heap.size, 1, none⟩ = some (.int .i64 (-1)) := (kU.cell_ 1).trans (by simp)
  have t2 : w3.cell? ⟨w2.heap.size, 2, none⟩ = some (.int .i64 g) := (kU.cell_ 2).trans (by simp)
  have zl3 : w.heap.size + 1 < w3.heap.size := by omega
  have HS := Lib.hid (And.intro hsU s3)
  clear q0 q1 q2 p0 p1 p2 fz0 fz1 fz2 hBU hb3 kU hBW hsU s3
  go_wp2_with fail
  refine bodyPost_ret (v := .tuple #[.agg #[.int .i64 7, .int .i64 (-1), .int .i64 g], .slice A3 (thereF [f]).length c3, .int .i64 (-1), .int .i64 0]) (by simp [results, Tryd.results28, go_sem, p0_, p1_, p2_]) rfl ?_
  unfold StpPost
  rw [HE.out]
  have hs := HS.out
  exact ⟨A3, c3, rfl, (((HI3.out.far 0 _ (by omega)).far 1 _ (by omega)).far 2 _ (by omega)).mono (by omega), ((HB3.out.setCell (p := ⟨w.heap.size + 1, 0, none⟩) (show w.heap.size ≤ w.heap.size + 1 by omega) _).setCell (p := ⟨w.heap.size + 1, 1, none⟩) (show w.heap.size ≤ w.heap.size + 1 by omega) _).setCell (p := ⟨w.heap.size + 1, 2, none⟩) (show w.heap.size ≤ w.heap.size + 1 by omega) _⟩
theorem RStep_any (s f g e n : Int) (w : World) :
    Calls Tryd.prog 28 #[.agg #[.int .i64 s, .int .i64 f, .int .i64 g], .int .i64 e, .int .i64 n] w (StpPost (stpR (s, f, g) e n) w) := by
  by_cases h0 : chkR (s, f, g) = 0
  · by_cases h1 : e < 1
    · exact rStep_kinda s f g e n w h0 h1
    · by_cases h6 : 6 < e
      · exact rStep_kindb s f g e n w h0 h6
      · by_cases he : e = 1
        · cases hd : decide (0 ≤ n ∧ n < 256) with
          | false => exact rStep_range1 s f g e n w h0 he hd
          | true =>
            cases hc : canR (s, f, g) e with
            | false => exact rStep_f_no s f g e n w h0 he hd hc
            | true =>
              by_cases hg : n = g
              · exact rStep_f_has s f g e n w h0 he hd hc hg
              · exact rStep_1 s f g e n w h0 he hd hc hg
        · by_cases hn : n = -1
          · cases hc : canR (s, f, g) e with
            | false => exact rStep_e_no s f g e n w h0 (by omega) (by omega) hn hc
            | true =>
              rcases (by omega : e = 2 ∨ e = 3 ∨ e = 4 ∨ e = 5 ∨ e = 6) with h | h | h | h | h
              · exact rStep_2 s f g e n w h0 hn hc h
              · exact rStep_3 s f g e n w h0 hn hc h
              · by_cases hs : s = 4
                · exact rStep_4c s f g e n w h0 hn hc h hs
                · exact rStep_4w s f g e n w h0 hn hc h hs
              · have : s = 3 ∨ s = 6 := by subst h; simp [canR] at hc; exact hc.1
                rcases this with hs | hs
                · exact rStep_5r s f g e n w h0 hn hc h hs
                · exact rStep_5d s f g e n w h0 hn hc h hs
              · by_cases hs : s = 3
                · exact rStep_6o s f g e n w h0 hn hc h hs
                · exact rStep_6g s f g e n w h0 hn hc h hs
          · exact rStep_range2 s f g e n w h0 (by omega) (by omega) hn
  · exact rStep_chk s f g e n w h0
end Go.Proofs.YtngenoblifhnpaaDoor
