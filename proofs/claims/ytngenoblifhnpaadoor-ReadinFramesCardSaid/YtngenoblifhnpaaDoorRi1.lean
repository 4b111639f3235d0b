/- Contracts of package readin: isFrame, Check. -/
import Derived.Test.YtngenoblifhnpaaDoorRiS
namespace Go.Proofs.YtngenoblifhnpaaDoor
open Go.RowKit Go.Maps

set_option maxHeartbeats 1000000 in
theorem isFrame_b (n : Int) (b : Bool) (hb : decide (0 ≤ n ∧ n < 256) = b) (w : World) : Calls Tryd.prog 35 #[.int .i64 n] w fun e w' => e = .returned (.bool b) ∧ w = w' := by
  have HB := Lib.hid hb
  clear hb
  go_enter Tryd.func35, Tryd.ntmps35
  go_wp2
  all_goals
    go_ret
    refine ⟨ret_bool ?_, rfl⟩
    have := HB.out
    first | (rw [← this, decide_eq_true (by omega)]; done) | (rw [← this, decide_eq_false (by omega)]; done) | (simp_all; done) | (simp_all; omega)

theorem frOk_cases (n : Int) : (n = -1 ∧ frOk n = true) ∨ (n ≠ -1 ∧ decide (0 ≤ n ∧ n < 256) = true ∧ frOk n = true) ∨ (n ≠ -1 ∧ decide (0 ≤ n ∧ n < 256) = false ∧ frOk n = false) := by
  unfold frOk
  by_cases h : n = -1
  · exact .inl ⟨h, by simp [h]⟩
  · cases hd : decide (0 ≤ n ∧ n < 256) with
    | true => exact .inr (.inl ⟨h, rfl, by simp⟩)
    | false => exact .inr (.inr ⟨h, rfl, by simp [h]⟩)

/-- The error of the form. -/
def gErr (b : Bool) : Int := if b then 0 else 3

set_option maxRecDepth 100000 in
set_option maxHeartbeats 16000000 in
theorem Check_ok (s f g : Int) (w : World) (h1 : 1 ≤ s) (h8 : s ≤ 8) (hf : frOk f = true) (hg : frOk g = true) :
    Calls Tryd.prog 26 #[.agg #[.int .i64 s, .int .i64 f, .int .i64 g]] w fun e w' => e = .returned (.int .i64 (gErr (goodR (s, f, g)))) ∧ Below w.heap.size w w' := by
  rcases frOk_cases f with ⟨rfl, _⟩ | ⟨nf, df, _⟩ | ⟨_, _, h⟩
  · rcases frOk_cases g with ⟨rfl, _⟩ | ⟨ng, dg, _⟩ | ⟨_, _, h⟩
    · clear hf hg
      rcases (by omega : s = 1 ∨ s = 2 ∨ s = 3 ∨ s = 4 ∨ s = 5 ∨ s = 6 ∨ s = 7 ∨ s = 8) with rfl | rfl | rfl | rfl | rfl | rfl | rfl | rfl
      all_goals
        go_enter Tryd.func26, Tryd.ntmps26
        go_wp2_with fail
        go_quiet (fail)
        go_wp2_with fail
        go_ret
        exact ⟨ret_int (by decide), (by repeat' (first | with_reducible exact Below.refl _ _ | with_reducible assumption | with_reducible apply Below.drew | with_reducible apply below_drewN | with_reducible apply Below.alloc | with_reducible apply Below.setCell | (with_reducible refine Below.trans ?_ (Below.mono (by assumption) ?_)) | (simp; done) | (simp; omega) | omega | with_reducible apply le_size_alloc | with_reducible apply le_size_drewN | with_reducible apply le_size_drew | with_reducible apply le_size_setCell | refine Nat.le_trans ?_ (Below.size (by assumption))))⟩
    · clear hf hg
      have nb : (g != -1) = true := by simpa using ng
      have nc : (-1 != g) = true := by simp; omega
      have ne : ¬ (-1 : Int) = g := fun e => ng e.symm
      rcases (by omega : s = 1 ∨ s = 2 ∨ s = 3 ∨ s = 4 ∨ s = 5 ∨ s = 6 ∨ s = 7 ∨ s = 8) with rfl | rfl | rfl | rfl | rfl | rfl | rfl | rfl
      all_goals
        go_enter Tryd.func26, Tryd.ntmps26
        go_wp2_with (first | (go_at_call 35; with_reducible refine (isFrame_b g _ dg _).mono ?_; rintro e w' ⟨rfl, rfl⟩))
        go_quiet (fail)
        go_wp2_with fail
        go_ret
        exact ⟨ret_int (by simp [gErr, goodR, ng, ne]), (by repeat' (first | with_reducible exact Below.refl _ _ | with_reducible assumption | with_reducible apply Below.drew | with_reducible apply below_drewN | with_reducible apply Below.alloc | with_reducible apply Below.setCell | (with_reducible refine Below.trans ?_ (Below.mono (by assumption) ?_)) | (simp; done) | (simp; omega) | omega | with_reducible apply le_size_alloc | with_reducible apply le_size_drewN | with_reducible apply le_size_drew | with_reducible apply le_size_setCell | refine Nat.le_trans ?_ (Below.size (by assumption))))⟩
    · rw [hg] at h; cases h
  · have nb : (f != -1) = true := by simpa using nf
    rcases frOk_cases g with ⟨rfl, _⟩ | ⟨ng, dg, _⟩ | ⟨_, _, h⟩
    · clear hf hg
      rcases (by omega : s = 1 ∨ s = 2 ∨ s = 3 ∨ s = 4 ∨ s = 5 ∨ s = 6 ∨ s = 7 ∨ s = 8) with rfl | rfl | rfl | rfl | rfl | rfl | rfl | rfl
      all_goals
        go_enter Tryd.func26, Tryd.ntmps26
        go_wp2_with (first | (go_at_call 35; with_reducible refine (isFrame_b f _ df _).mono ?_; rintro e w' ⟨rfl, rfl⟩))
        go_quiet (fail)
        go_wp2_with fail
        go_ret
        exact ⟨ret_int (by simp [gErr, goodR, nf]), (by repeat' (first | with_reducible exact Below.refl _ _ | with_reducible assumption | with_reducible apply Below.drew | with_reducible apply below_drewN | with_reducible apply Below.alloc | with_reducible apply Below.setCell | (with_reducible refine Below.trans ?_ (Below.mono (by assumption) ?_)) | (simp; done) | (simp; omega) | omega | with_reducible apply le_size_alloc | with_reducible apply le_size_drewN | with_reducible apply le_size_drew | with_reducible apply le_size_setCell | refine Nat.le_trans ?_ (Below.size (by assumption))))⟩
    · clear hf hg
      have nc : (g != -1) = true := by simpa using ng
      by_cases hfg : f = g
      · subst hfg
        have nd : (f != f) = false := by simp
        rcases (by omega : s = 1 ∨ s = 2 ∨ s = 3 ∨ s = 4 ∨ s = 5 ∨ s = 6 ∨ s = 7 ∨ s = 8) with rfl | rfl | rfl | rfl | rfl | rfl | rfl | rfl
        all_goals
          go_enter Tryd.func26, Tryd.ntmps26
          go_wp2_with (first | (go_at_call 35; with_reducible refine (isFrame_b f _ df _).mono ?_; rintro e w' ⟨rfl, rfl⟩))
          go_quiet (fail)
          go_wp2_with fail
          go_ret
          exact ⟨ret_int (by simp [gErr, goodR, nf]), (by repeat' (first | with_reducible exact Below.refl _ _ | with_reducible assumption | with_reducible apply Below.drew | with_reducible apply below_drewN | with_reducible apply Below.alloc | with_reducible apply Below.setCell | (with_reducible refine Below.trans ?_ (Below.mono (by assumption) ?_)) | (simp; done) | (simp; omega) | omega | with_reducible apply le_size_alloc | with_reducible apply le_size_drewN | with_reducible apply le_size_drew | with_reducible apply le_size_setCell | refine Nat.le_trans ?_ (Below.size (by assumption))))⟩
      · have nd : (f != g) = true := by simpa using hfg
        rcases (by omega : s = 1 ∨ s = 2 ∨ s = 3 ∨ s = 4 ∨ s = 5 ∨ s = 6 ∨ s = 7 ∨ s = 8) with rfl | rfl | rfl | rfl | rfl | rfl | rfl | rfl
        all_goals
          go_enter Tryd.func26, Tryd.ntmps26
          go_wp2_with (first | (go_at_call 35; with_reducible refine (isFrame_b f _ df _).mono ?_; rintro e w' ⟨rfl, rfl⟩) | (go_at_call 35; with_reducible refine (isFrame_b g _ dg _).mono ?_; rintro e w' ⟨rfl, rfl⟩))
          go_quiet (fail)
          go_wp2_with fail
          go_ret
          exact ⟨ret_int (by simp [gErr, goodR, nf, ng, hfg]), (by repeat' (first | with_reducible exact Below.refl _ _ | with_reducible assumption | with_reducible apply Below.drew | with_reducible apply below_drewN | with_reducible apply Below.alloc | with_reducible apply Below.setCell | (with_reducible refine Below.trans ?_ (Below.mono (by assumption) ?_)) | (simp; done) | (simp; omega) | omega | with_reducible apply le_size_alloc | with_reducible apply le_size_drewN | with_reducible apply le_size_drew | with_reducible apply le_size_setCell | refine Nat.le_trans ?_ (Below.size (by assumption))))⟩
    · rw [hg] at h; cases h
  · rw [hf] at h; cases h

set_option maxRecDepth 100000 in
set_option maxHeartbeats 4000000 in
theorem Check_any (s f g : Int) (w : World) {z : Int} (h : chkR (s, f, g) = z) :
    Calls Tryd.prog 26 #[.agg #[.int .i64 s, .int .i64 f, .int .i64 g]] w fun e w' => e = .returned (.int .i64 z) ∧ Below w.heap.size w w' := by
  by_cases h0 : s < 1 ∨ 8 < s
  · have hz : z = 9 := by rw [← h]; unfold chkR; rw [if_pos h0]
    subst hz
    clear h
    rcases (by omega : s < 1 ∨ (1 ≤ s ∧ 8 < s)) with h1 | ⟨h1, h2⟩
    all_goals
      go_enter Tryd.func26, Tryd.ntmps26
      go_wp2_with fail
      go_ret
      exact ⟨rfl, (by repeat' (first | with_reducible exact Below.refl _ _ | with_reducible assumption | with_reducible apply Below.drew | with_reducible apply below_drewN | with_reducible apply Below.alloc | with_reducible apply Below.setCell | (with_reducible refine Below.trans ?_ (Below.mono (by assumption) ?_)) | (simp; done) | (simp; omega) | omega | with_reducible apply le_size_alloc | with_reducible apply le_size_drewN | with_reducible apply le_size_drew | with_reducible apply le_size_setCell | refine Nat.le_trans ?_ (Below.size (by assumption))))⟩
  · have h1 : 1 ≤ s := by omega
    have h8 : s ≤ 8 := by omega
    by_cases h2 : frOk f = false ∨ frOk g = false
    · have hz : z = 2 := by rw [← h]; unfold chkR; rw [if_neg h0, if_pos h2]
      subst hz
      clear h h0
      rcases frOk_cases f with ⟨rfl, hf⟩ | ⟨nf, df, hf⟩ | ⟨nf, df, hf⟩
      · rcases frOk_cases g with ⟨rfl, hg⟩ | ⟨ng, dg, hg⟩ | ⟨ng, dg, hg⟩
        · rw [hf] at h2; simp at h2
        · rw [hf, hg] at h2; simp at h2
        · have nc : (g != -1) = true := by simpa using ng
          clear h2
          go_enter Tryd.func26, Tryd.ntmps26
          go_wp2_with (first | (go_at_call 35; with_reducible refine (isFrame_b g _ dg _).mono ?_; rintro e w' ⟨rfl, rfl⟩))
          go_ret
          exact ⟨rfl, (by repeat' (first | with_reducible exact Below.refl _ _ | with_reducible assumption | with_reducible apply Below.drew | with_reducible apply below_drewN | with_reducible apply Below.alloc | with_reducible apply Below.setCell | (with_reducible refine Below.trans ?_ (Below.mono (by assumption) ?_)) | (simp; done) | (simp; omega) | omega | with_reducible apply le_size_alloc | with_reducible apply le_size_drewN | with_reducible apply le_size_drew | with_reducible apply le_size_setCell | refine Nat.le_trans ?_ (Below.size (by assumption))))⟩
      · have nb : (f != -1) = true := by simpa using nf
        rcases frOk_cases g with ⟨rfl, hg⟩ | ⟨ng, dg, hg⟩ | ⟨ng, dg, hg⟩
        · rw [hf, hg] at h2; simp at h2
        · rw [hf, hg] at h2; simp at h2
        · have nc : (g != -1) = true := by simpa using ng
          clear h2
          go_enter Tryd.func26, Tryd.ntmps26
          go_wp2_with (first | (go_at_call 35; with_reducible refine (isFrame_b f _ df _).mono ?_; rintro e w' ⟨rfl, rfl⟩) | (go_at_call 35; with_reducible refine (isFrame_b g _ dg _).mono ?_; rintro e w' ⟨rfl, rfl⟩))
          go_ret
          exact ⟨rfl, (by repeat' (first | with_reducible exact Below.refl _ _ | with_reducible assumption | with_reducible apply Below.drew | with_reducible apply below_drewN | with_reducible apply Below.alloc | with_reducible apply Below.setCell | (with_reducible refine Below.trans ?_ (Below.mono (by assumption) ?_)) | (simp; done) | (simp; omega) | omega | with_reducible apply le_size_alloc | with_reducible apply le_size_drewN | with_reducible apply le_size_drew | with_reducible apply le_size_setCell | refine Nat.le_trans ?_ (Below.size (by assumption))))⟩
      · have nb : (f != -1) = true := by simpa using nf
        clear h2
        go_enter Tryd.func26, Tryd.ntmps26
        go_wp2_with (first | (go_at_call 35; with_reducible refine (isFrame_b f _ df _).mono ?_; rintro e w' ⟨rfl, rfl⟩))
        go_ret
        exact ⟨rfl, (by repeat' (first | with_reducible exact Below.refl _ _ | with_reducible assumption | with_reducible apply Below.drew | with_reducible apply below_drewN | with_reducible apply Below.alloc | with_reducible apply Below.setCell | (with_reducible refine Below.trans ?_ (Below.mono (by assumption) ?_)) | (simp; done) | (simp; omega) | omega | with_reducible apply le_size_alloc | with_reducible apply le_size_drewN | with_reducible apply le_size_drew | with_reducible apply le_size_setCell | refine Nat.le_trans ?_ (Below.size (by assumption))))⟩
    · have hf : frOk f = true := by cases hq : frOk f <;> simp_all
      have hg : frOk g = true := by cases hq : frOk g <;> simp_all
      have hz : gErr (goodR (s, f, g)) = z := by rw [← h]; unfold chkR gErr; rw [if_neg h0, if_neg h2]
      rw [← hz]
      exact Check_ok s f g w h1 h8 hf hg

end Go.Proofs.YtngenoblifhnpaaDoor
