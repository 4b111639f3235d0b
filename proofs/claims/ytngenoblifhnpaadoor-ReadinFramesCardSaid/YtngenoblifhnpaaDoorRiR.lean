/- Contracts of the reference of layer 21. Written by gen_rir.py. -/
import Derived.Test.YtngenoblifhnpaaDoorRi11
import Derived.Test.YtngenoblifhnpaaDoorRiM
namespace Go.Proofs.YtngenoblifhnpaaDoor
open Go.RowKit Go.Maps

set_option maxHeartbeats 1000000 in
theorem rframe_b (n : Int) (b : Bool) (hb : decide (0 ≤ n ∧ n < 256) = b) (w : World) : Calls Tryd.prog 42 #[.int .i64 n] w fun e w' => e = .returned (.bool b) ∧ w = w' := by
  have HB := Lib.hid hb
  clear hb
  go_enter Tryd.func42, Tryd.ntmps42
  go_wp2
  all_goals
    go_ret
    refine ⟨ret_bool ?_, rfl⟩
    have := HB.out
    first | (rw [← this, decide_eq_true (by omega)]; done) | (rw [← this, decide_eq_false (by omega)]; done) | (simp_all; done) | (simp_all; omega)
theorem frOk_iff (n : Int) : frOk n = true ↔ -1 ≤ n ∧ n < 256 := by unfold frOk; simp; omega
theorem frOk_no (n : Int) : frOk n = false ↔ n < -1 ∨ 256 ≤ n := by
  have := frOk_iff n
  cases h : frOk n
  · rw [h] at this; simp at this; simp; omega
  · rw [h] at this; simp at this; simp; omega
set_option maxRecDepth 100000 in
set_option maxHeartbeats 16000000 in
theorem rCheck_ok (s f g : Int) (w : World) (h1 : 1 ≤ s) (h8 : s ≤ 8) (hf0 : -1 ≤ f) (hf1 : f < 256) (hg0 : -1 ≤ g) (hg1 : g < 256) :
    Calls Tryd.prog 27 #[.agg #[.int .i64 s, .int .i64 f, .int .i64 g]] w fun e w' => e = .returned (.int .i64 (gErr (goodR (s, f, g)))) ∧ Below w.heap.size w w' := by
  have hs : Hid (s = 1 ∨ s = 2 ∨ s = 3 ∨ s = 4 ∨ s = 5 ∨ s = 6 ∨ s = 7 ∨ s = 8) := by show _ ∨ _; omega
  by_cases hf : f = -1
  · by_cases hg : g = -1
    · subst hf hg
      go_enter Tryd.func27, Tryd.ntmps27
      go_wp2_with fail
      go_quiet (fail)
      go_wp2_with fail
      all_goals
        go_ret
        refine ⟨ret_int ?_, (by repeat' (first | with_reducible exact Below.refl _ _ | with_reducible assumption | with_reducible apply Below.drew | with_reducible apply below_drewN | with_reducible apply Below.alloc | with_reducible apply Below.setCell | (with_reducible refine Below.trans ?_ (Below.mono (by assumption) ?_)) | (simp; done) | (simp; omega) | omega | with_reducible apply le_size_alloc | with_reducible apply le_size_drewN | with_reducible apply le_size_drew | with_reducible apply le_size_setCell | refine Nat.le_trans ?_ (Below.size (by assumption))))⟩
        rcases hs.out with rfl | rfl | rfl | rfl | rfl | rfl | rfl | rfl <;> first | decide | (exfalso; simp_all; done) | (exfalso; omega)
    · subst hf
      have nb : (g != -1) = true := by simpa using hg
      have ng : ¬ (-1 : Int) = g := fun e => hg e.symm
      have nd : (-1 != g) = true := by simpa using ng
      have HN := Lib.hid (And.intro hg ng)
      clear hg ng
      go_enter Tryd.func27, Tryd.ntmps27
      go_wp2_with fail
      go_quiet (fail)
      go_wp2_with fail
      all_goals
        go_ret
        refine ⟨ret_int ?_, (by repeat' (first | with_reducible exact Below.refl _ _ | with_reducible assumption | with_reducible apply Below.drew | with_reducible apply below_drewN | with_reducible apply Below.alloc | with_reducible apply Below.setCell | (with_reducible refine Below.trans ?_ (Below.mono (by assumption) ?_)) | (simp; done) | (simp; omega) | omega | with_reducible apply le_size_alloc | with_reducible apply le_size_drewN | with_reducible apply le_size_drew | with_reducible apply le_size_setCell | refine Nat.le_trans ?_ (Below.size (by assumption))))⟩
        rcases hs.out with rfl | rfl | rfl | rfl | rfl | rfl | rfl | rfl <;> first | (exfalso; simp_all; done) | (simp [gErr, goodR, HN.out.1, HN.out.2]; done)
  · have na : (f != -1) = true := by simpa using hf
    by_cases hg : g = -1
    · subst hg
      have HN := Lib.hid hf
      clear hf
      go_enter Tryd.func27, Tryd.ntmps27
      go_wp2_with fail
      go_quiet (fail)
      go_wp2_with fail
      all_goals
        go_ret
        refine ⟨ret_int ?_, (by repeat' (first | with_reducible exact Below.refl _ _ | with_reducible assumption | with_reducible apply Below.drew | with_reducible apply below_drewN | with_reducible apply Below.alloc | with_reducible apply Below.setCell | (with_reducible refine Below.trans ?_ (Below.mono (by assumption) ?_)) | (simp; done) | (simp; omega) | omega | with_reducible apply le_size_alloc | with_reducible apply le_size_drewN | with_reducible apply le_size_drew | with_reducible apply le_size_setCell | refine Nat.le_trans ?_ (Below.size (by assumption))))⟩
        rcases hs.out with rfl | rfl | rfl | rfl | rfl | rfl | rfl | rfl <;> first | (exfalso; simp_all; done) | (simp [gErr, goodR, HN.out]; done)
    · have nb : (g != -1) = true := by simpa using hg
      by_cases hd : f = g
      · subst hd
        have nd : (f != f) = false := by simp
        have HN := Lib.hid hf
        clear hf hg
        go_enter Tryd.func27, Tryd.ntmps27
        go_wp2_with fail
        go_quiet (fail)
        go_wp2_with fail
        all_goals
          go_ret
          refine ⟨ret_int ?_, (by repeat' (first | with_reducible exact Below.refl _ _ | with_reducible assumption | with_reducible apply Below.drew | with_reducible apply below_drewN | with_reducible apply Below.alloc | with_reducible apply Below.setCell | (with_reducible refine Below.trans ?_ (Below.mono (by assumption) ?_)) | (simp; done) | (simp; omega) | omega | with_reducible apply le_size_alloc | with_reducible apply le_size_drewN | with_reducible apply le_size_drew | with_reducible apply le_size_setCell | refine Nat.le_trans ?_ (Below.size (by assumption))))⟩
          rcases hs.out with rfl | rfl | rfl | rfl | rfl | rfl | rfl | rfl <;> first | (exfalso; simp_all; done) | (simp [gErr, goodR, HN.out]; done)
      · have nd : (f != g) = true := by simpa using hd
        have HN := Lib.hid (And.intro hf (And.intro hg hd))
        clear hf hg hd
        go_enter Tryd.func27, Tryd.ntmps27
        go_wp2_with fail
        go_quiet (fail)
        go_wp2_with fail
        all_goals
          go_ret
          refine ⟨ret_int ?_, (by repeat' (first | with_reducible exact Below.refl _ _ | with_reducible assumption | with_reducible apply Below.drew | with_reducible apply below_drewN | with_reducible apply Below.alloc | with_reducible apply Below.setCell | (with_reducible refine Below.trans ?_ (Below.mono (by assumption) ?_)) | (simp; done) | (simp; omega) | omega | with_reducible apply le_size_alloc | with_reducible apply le_size_drewN | with_reducible apply le_size_drew | with_reducible apply le_size_setCell | refine Nat.le_trans ?_ (Below.size (by assumption))))⟩
          rcases hs.out with rfl | rfl | rfl | rfl | rfl | rfl | rfl | rfl <;> first | (exfalso; simp_all; done) | (simp [gErr, goodR, HN.out.1, HN.out.2.1, HN.out.2.2]; done)
set_option maxRecDepth 100000 in
set_option maxHeartbeats 4000000 in
theorem rCheck_any (s f g : Int) (w : World) {z : Int} (h : chkR (s, f, g) = z) :
    Calls Tryd.prog 27 #[.agg #[.int .i64 s, .int .i64 f, .int .i64 g]] w fun e w' => e = .returned (.int .i64 z) ∧ Below w.heap.size w w' := by
  by_cases h0 : s < 1 ∨ 8 < s
  · have hz : z = 9 := by rw [← h]; unfold chkR; rw [if_pos h0]
    subst hz
    clear h
    rcases (by omega : s < 1 ∨ (1 ≤ s ∧ 8 < s)) with h1 | ⟨h1, h2⟩
    all_goals
      clear h0
      go_enter Tryd.func27, Tryd.ntmps27
      go_wp2_with fail
      go_ret
      exact ⟨rfl, (by repeat' (first | with_reducible exact Below.refl _ _ | with_reducible assumption | with_reducible apply Below.drew | with_reducible apply below_drewN | with_reducible apply Below.alloc | with_reducible apply Below.setCell | (with_reducible refine Below.trans ?_ (Below.mono (by assumption) ?_)) | (simp; done) | (simp; omega) | omega | with_reducible apply le_size_alloc | with_reducible apply le_size_drewN | with_reducible apply le_size_drew | with_reducible apply le_size_setCell | refine Nat.le_trans ?_ (Below.size (by assumption))))⟩
  · have h1 : 1 ≤ s := by omega
    have h8 : s ≤ 8 := by omega
    by_cases h2 : frOk f = false ∨ frOk g = false
    · have hz : z = 2 := by rw [← h]; unfold chkR; rw [if_neg h0, if_pos h2]
      subst hz
      rw [frOk_no, frOk_no] at h2
      rcases (by omega : f < -1 ∨ (-1 ≤ f ∧ 256 ≤ f) ∨ (-1 ≤ f ∧ f < 256 ∧ g < -1) ∨ (-1 ≤ f ∧ f < 256 ∧ -1 ≤ g ∧ 256 ≤ g)) with a | ⟨a, b⟩ | ⟨a, b, c⟩ | ⟨a, b, c, d⟩
      all_goals
        clear h h0 h2
        go_enter Tryd.func27, Tryd.ntmps27
        go_wp2_with fail
        go_ret
        exact ⟨rfl, (by repeat' (first | with_reducible exact Below.refl _ _ | with_reducible assumption | with_reducible apply Below.drew | with_reducible apply below_drewN | with_reducible apply Below.alloc | with_reducible apply Below.setCell | (with_reducible refine Below.trans ?_ (Below.mono (by assumption) ?_)) | (simp; done) | (simp; omega) | omega | with_reducible apply le_size_alloc | with_reducible apply le_size_drewN | with_reducible apply le_size_drew | with_reducible apply le_size_setCell | refine Nat.le_trans ?_ (Below.size (by assumption))))⟩
    · have hz : z = gErr (goodR (s, f, g)) := by
        rw [← h]; unfold chkR gErr; rw [if_neg h0, if_neg h2]
      subst hz
      rw [not_or, Bool.not_eq_false, Bool.not_eq_false, frOk_iff, frOk_iff] at h2
      exact rCheck_ok s f g w h1 h8 h2.1.1 h2.1.2 h2.2.1 h2.2.2
set_option maxHeartbeats 2000000 in
theorem rBegin_any (g : Int) (w : World) {r : RI} {z : Int} (h : begR g = (r, z)) :
    Calls Tryd.prog 25 #[.int .i64 g] w fun e w' => e = .returned (.tuple #[.agg #[.int .i64 r.1, .int .i64 r.2.1, .int .i64 r.2.2], .int .i64 z]) ∧ Below w.heap.size w w' := by
  unfold begR at h
  cases hf : frOk g with
  | true =>
    rw [hf, if_pos rfl] at h
    obtain ⟨rfl, rfl⟩ := Prod.mk.inj h
    obtain ⟨g0, g1⟩ := (frOk_iff g).1 hf
    clear h hf
    go_enter Tryd.func25, Tryd.ntmps25
    go_wp2_with fail
    refine bodyPost_ret (v := .tuple #[.agg #[.int .i64 1, .int .i64 (-1), .int .i64 g], .int .i64 0]) (by simp [results, Tryd.results25, go_sem]) rfl ?_
    exact ⟨rfl, (by repeat' (first | with_reducible exact Below.refl _ _ | with_reducible assumption | with_reducible apply Below.drew | with_reducible apply below_drewN | with_reducible apply Below.alloc | with_reducible apply Below.setCell | (with_reducible refine Below.trans ?_ (Below.mono (by assumption) ?_)) | (simp; done) | (simp; omega) | omega | with_reducible apply le_size_alloc | with_reducible apply le_size_drewN | with_reducible apply le_size_drew | with_reducible apply le_size_setCell | refine Nat.le_trans ?_ (Below.size (by assumption))))⟩
  | false =>
    rw [hf, if_neg (by simp)] at h
    obtain ⟨rfl, rfl⟩ := Prod.mk.inj h
    rcases (by have := (frOk_no g).1 hf; omega : g < -1 ∨ (-1 ≤ g ∧ 256 ≤ g)) with a | ⟨a, b⟩
    all_goals
      clear h hf
      go_enter Tryd.func25, Tryd.ntmps25
      go_wp2_with fail
      refine bodyPost_ret (v := .tuple #[.agg #[.int .i64 0, .int .i64 0, .int .i64 0], .int .i64 2]) (by simp [results, Tryd.results25, go_sem]) rfl ?_
      exact ⟨rfl, (by repeat' (first | with_reducible exact Below.refl _ _ | with_reducible assumption | with_reducible apply Below.drew | with_reducible apply below_drewN | with_reducible apply Below.alloc | with_reducible apply Below.setCell | (with_reducible refine Below.trans ?_ (Below.mono (by assumption) ?_)) | (simp; done) | (simp; omega) | omega | with_reducible apply le_size_alloc | with_reducible apply le_size_drewN | with_reducible apply le_size_drew | with_reducible apply le_size_setCell | refine Nat.le_trans ?_ (Below.size (by assumption))))⟩
theorem good_45 {s f g : Int} (h : chkR (s, f, g) = 0) : (s = 4 → g ≠ -1) ∧ ((s = 3 ∨ s = 6) → g = -1) := by
  obtain ⟨_, hg⟩ := chk_zero h
  refine ⟨?_, ?_⟩
  · rintro rfl; simp [goodR] at hg; exact hg.1
  · rintro (rfl | rfl)
    · simp [goodR] at hg; exact hg.2
    · simp [goodR] at hg; exact hg.2
set_option maxRecDepth 100000 in
set_option maxHeartbeats 16000000 in
theorem allows_any (s f g e : Int) (w : World) (hc : chkR (s, f, g) = 0) (e1 : 1 ≤ e) (e6 : e ≤ 6) :
    Calls Tryd.prog 43 #[.agg #[.int .i64 s, .int .i64 f, .int .i64 g], .int .i64 e] w fun er w' => er = .returned (.bool (canR (s, f, g) e)) ∧ Below w.heap.size w w' := by
  obtain ⟨h4, h36⟩ := good_45 hc
  obtain ⟨s1, s8⟩ := chk_state hc
  have H4 := Lib.hid h4; have H36 := Lib.hid h36
  clear h4 h36 hc
  by_cases hg : g = -1
  all_goals
    have HG := Lib.hid hg
    first | (have hgb : (g != -1) = true := by simpa using hg) | (have hgb : (g != -1) = false := by simpa using hg)
    clear hg
    rcases (by omega : e = 1 ∨ e = 2 ∨ e = 3 ∨ e = 4 ∨ e = 5 ∨ e = 6) with rfl | rfl | rfl | rfl | rfl | rfl
    all_goals
      go_enter Tryd.func43, Tryd.ntmps43
      go_wp2_with fail
      all_goals
        go_ret
        refine ⟨ret_bool ?_, (by repeat' (first | with_reducible exact Below.refl _ _ | with_reducible assumption | with_reducible apply Below.drew | with_reducible apply below_drewN | with_reducible apply Below.alloc | with_reducible apply Below.setCell | (with_reducible refine Below.trans ?_ (Below.mono (by assumption) ?_)) | (simp; done) | (simp; omega) | omega | with_reducible apply le_size_alloc | with_reducible apply le_size_drewN | with_reducible apply le_size_drew | with_reducible apply le_size_setCell | refine Nat.le_trans ?_ (Below.size (by assumption))))⟩
        have q4 := H4.out; have q36 := H36.out; have qg := HG.out
        clear H4 H36 HG
        rcases (by omega : s = 1 ∨ s = 2 ∨ s = 3 ∨ s = 4 ∨ s = 5 ∨ s = 6 ∨ s = 7 ∨ s = 8) with rfl | rfl | rfl | rfl | rfl | rfl | rfl | rfl <;> first | (exfalso; simp_all; done) | (simp_all [canR]; done) | (simp [canR, qg]; done)
end Go.Proofs.YtngenoblifhnpaaDoor
