/- Contracts of package readin: after, Step, Events, Needs, Over. -/
import Derived.Test.YtngenoblifhnpaaDoorRi8
namespace Go.Proofs.YtngenoblifhnpaaDoor
open Go.RowKit Go.Maps

theorem after_any (s f g e n : Int) (w : World) (h1 : 1 ≤ e) (h6 : e ≤ 6) :
    Calls Tryd.prog 37 #[.agg #[.int .i64 s, .int .i64 f, .int .i64 g], .int .i64 e, .int .i64 n] w (AftPost (aftR (s, f, g) e n) w) := by
  rcases (by omega : (e = 1 ∨ e = 2 ∨ e = 3) ∨ e = 4 ∨ e = 5 ∨ e = 6) with h | rfl | rfl | rfl
  · exact after_few s f g e n w h
  · by_cases h : s = 4
    · exact after_claimed s f g n w h
    · exact after_written s f g n w h
  · by_cases h : s = 6
    · exact after_drop s f g n w h
    · exact after_read s f g n w h
  · by_cases h : s = 3
    · subst h; exact after_orphan f g n w
    · exact after_gone s f g n w h

/-- A list and an error. -/
def LsPost (l : List Int) (z : Int) (w : World) (e : Ending) (w' : World) : Prop := ∃ A c, e = .returned (.tuple #[.slice A l.length c, .int .i64 z]) ∧ IW w' A c l ∧ Below w.heap.size w w'
/-- An access, a list, a frame and an error. -/
def StpPost (R : RI × List Int × Int × Int) (w : World) (e : Ending) (w' : World) : Prop :=
  ∃ A c, e = .returned (.tuple #[.agg #[.int .i64 R.1.1, .int .i64 R.1.2.1, .int .i64 R.1.2.2], .slice A R.2.1.length c, .int .i64 R.2.2.1, .int .i64 R.2.2.2]) ∧ IWn w' w.heap.size A c R.2.1 ∧ Below w.heap.size w w'
theorem chk_state {s f g : Int} (h : chkR (s, f, g) = 0) : 1 ≤ s ∧ s ≤ 8 := by
  unfold chkR at h
  by_cases hh : s < 1 ∨ 8 < s
  · rw [if_pos hh] at h; cases h
  · omega
/-- Events. -/
def eveR (r : RI) : List Int × Int := if chkR r = 0 then (evsR r, 0) else ([], chkR r)
/-- Needs. -/
def neeR (r : RI) : Int × Int := if chkR r = 0 then (ndsR r, 0) else (0, chkR r)
/-- Over. -/
def oveR (r : RI) : Bool × Int := if chkR r = 0 then (decide (evsR r = []), 0) else (false, chkR r)

theorem below_box {w w2 : World} {o : Obj} (h : Below (w.heap.size + 1) (w.alloc o) w2) : Below w.heap.size w w2 := ((Below.refl _ _).alloc (Nat.le_refl _) _).trans (h.mono (by simp))
set_option maxRecDepth 100000 in
set_option maxHeartbeats 4000000 in
theorem Events_any (s f g : Int) (w : World) (hal : AL w) :
    Calls Tryd.prog 29 #[.agg #[.int .i64 s, .int .i64 f, .int .i64 g]] w (LsPost (eveR (s, f, g)).1 (eveR (s, f, g)).2 w) := by
  have HAL := Lib.hid hal
  clear hal
  obtain ⟨z, hz⟩ : ∃ z, chkR (s, f, g) = z := ⟨_, rfl⟩
  by_cases h0 : z = 0
  · subst h0
    have HE : Hid (eveR (s, f, g) = (evsR (s, f, g), 0)) := by show _ = _; unfold eveR; rw [if_pos hz]
    obtain ⟨h1, h8⟩ := chk_state hz
    have HZ := Lib.hid hz
    clear hz
    go_enter Tryd.func29, Tryd.ntmps29
    go_wp2_with fail
    refine (Check_any s f g _ HZ.out).mono ?_
    rintro e w1 ⟨rfl, hb1⟩
    have q0 : w1.cell? ⟨w.heap.size, 0, none⟩ = some (.int .i64 s) := cell_keep hb1 (by simp) (by simp)
    have q1 : w1.cell? ⟨w.heap.size, 1, none⟩ = some (.int .i64 f) := cell_keep hb1 (by simp) (by simp)
    have q2 : w1.cell? ⟨w.heap.size, 2, none⟩ = some (.int .i64 g) := cell_keep hb1 (by simp) (by simp)
    go_wp2_with fail
    refine (events_any s f g _ (HAL.out.ext (by repeat' (first | with_reducible exact Below.refl _ _ | with_reducible assumption | with_reducible apply Below.drew | with_reducible apply below_drewN | with_reducible apply Below.alloc | with_reducible apply Below.setCell | (with_reducible refine Below.trans ?_ (Below.mono (by assumption) ?_)) | (simp; done) | (simp; omega) | omega | with_reducible apply le_size_alloc | with_reducible apply le_size_drewN | with_reducible apply le_size_drew | with_reducible apply le_size_setCell | refine Nat.le_trans ?_ (Below.size (by assumption))))) h1 h8).mono ?_
    rintro e w2 ⟨A, c, rfl, hi, hb2⟩
    have HI := Lib.hid hi
    clear hi
    go_wp2_with fail
    go_ret2
    unfold LsPost
    rw [HE.out]
    exact ⟨A, c, rfl, HI.out, (by repeat' (first | with_reducible exact Below.refl _ _ | with_reducible assumption | with_reducible apply Below.drew | with_reducible apply below_drewN | with_reducible apply Below.alloc | with_reducible apply Below.setCell | (with_reducible refine Below.trans ?_ (Below.mono (by assumption) ?_)) | (simp; done) | (simp; omega) | omega | with_reducible apply le_size_alloc | with_reducible apply le_size_drewN | with_reducible apply le_size_drew | with_reducible apply le_size_setCell | refine Nat.le_trans ?_ (Below.size (by assumption))))⟩
  · have HE : Hid (eveR (s, f, g) = ([], z)) := by show _ = _; unfold eveR; rw [if_neg (by rw [hz]; exact h0), hz]
    have nz : (z != 0) = true := by simpa using h0
    have HZ := Lib.hid hz
    clear hz
    go_enter Tryd.func29, Tryd.ntmps29
    go_wp2_with fail
    refine (Check_any s f g _ HZ.out).mono ?_
    rintro e w1 ⟨rfl, hb1⟩
    go_wp2_with fail
    go_ret2
    unfold LsPost
    rw [HE.out]
    exact ⟨none, 0, rfl, IW.nil, (by repeat' (first | with_reducible exact Below.refl _ _ | with_reducible assumption | with_reducible apply Below.drew | with_reducible apply below_drewN | with_reducible apply Below.alloc | with_reducible apply Below.setCell | (with_reducible refine Below.trans ?_ (Below.mono (by assumption) ?_)) | (simp; done) | (simp; omega) | omega | with_reducible apply le_size_alloc | with_reducible apply le_size_drewN | with_reducible apply le_size_drew | with_reducible apply le_size_setCell | refine Nat.le_trans ?_ (Below.size (by assumption))))⟩
set_option maxRecDepth 100000 in
set_option maxHeartbeats 4000000 in
theorem Over_any (s f g : Int) (w : World) (hal : AL w) :
    Calls Tryd.prog 22 #[.agg #[.int .i64 s, .int .i64 f, .int .i64 g]] w fun e w' => e = .returned (.tuple #[.bool (oveR (s, f, g)).1, .int .i64 (oveR (s, f, g)).2]) ∧ Below w.heap.size w w' := by
  have HAL := Lib.hid hal
  clear hal
  obtain ⟨z, hz⟩ : ∃ z, chkR (s, f, g) = z := ⟨_, rfl⟩
  by_cases h0 : z = 0
  · subst h0
    obtain ⟨b, hb⟩ : ∃ b, decide (evsR (s, f, g) = []) = b := ⟨_, rfl⟩
    have HE : Hid (oveR (s, f, g) = (b, 0)) := by show _ = _; unfold oveR; rw [if_pos hz, hb]
    have HB : Hid (decide ((((evsR (s, f, g)).length : Nat) : Int) = 0) = b) := by show _ = _; rw [← hb]; simp
    obtain ⟨h1, h8⟩ := chk_state hz
    have HZ := Lib.hid hz
    clear hz hb
    go_enter Tryd.func22, Tryd.ntmps22
    go_wp2_with fail
    refine (Check_any s f g _ HZ.out).mono ?_
    rintro e w1 ⟨rfl, hb1⟩
    have q0 : w1.cell? ⟨w.heap.size, 0, none⟩ = some (.int .i64 s) := cell_keep hb1 (by simp) (by simp)
    have q1 : w1.cell? ⟨w.heap.size, 1, none⟩ = some (.int .i64 f) := cell_keep hb1 (by simp) (by simp)
    have q2 : w1.cell? ⟨w.heap.size, 2, none⟩ = some (.int .i64 g) := cell_keep hb1 (by simp) (by simp)
    go_wp2_with fail
    refine (events_any s f g _ (HAL.out.ext (by repeat' (first | with_reducible exact Below.refl _ _ | with_reducible assumption | with_reducible apply Below.drew | with_reducible apply below_drewN | with_reducible apply Below.alloc | with_reducible apply Below.setCell | (with_reducible refine Below.trans ?_ (Below.mono (by assumption) ?_)) | (simp; done) | (simp; omega) | omega | with_reducible apply le_size_alloc | with_reducible apply le_size_drewN | with_reducible apply le_size_drew | with_reducible apply le_size_setCell | refine Nat.le_trans ?_ (Below.size (by assumption))))) h1 h8).mono ?_
    rintro e w2 ⟨A, c, rfl, hi, hb2⟩
    clear hi
    cases b with
    | true =>
      have hl : (evsR (s, f, g)).length = 0 := by have := HB.out; simpa using this
      rw [hl]
      go_wp2_with fail
      go_ret2
      rw [HE.out]
      exact ⟨rfl, (by repeat' (first | with_reducible exact Below.refl _ _ | with_reducible assumption | with_reducible apply Below.drew | with_reducible apply below_drewN | with_reducible apply Below.alloc | with_reducible apply Below.setCell | (with_reducible refine Below.trans ?_ (Below.mono (by assumption) ?_)) | (simp; done) | (simp; omega) | omega | with_reducible apply le_size_alloc | with_reducible apply le_size_drewN | with_reducible apply le_size_drew | with_reducible apply le_size_setCell | refine Nat.le_trans ?_ (Below.size (by assumption))))⟩
    | false =>
      have hl : 0 < (evsR (s, f, g)).length := by have := HB.out; have h := of_decide_eq_false this; omega
      obtain ⟨n, hn⟩ : ∃ n, (evsR (s, f, g)).length = n + 1 := ⟨_, (Nat.succ_pred_eq_of_pos hl).symm⟩
      rw [hn]
      have e1 : (((n + 1 : Nat) : Int) == 0) = false := by simp; omega
      go_wp2_with fail
      go_ret2
      rw [HE.out]
      exact ⟨rfl, (by repeat' (first | with_reducible exact Below.refl _ _ | with_reducible assumption | with_reducible apply Below.drew | with_reducible apply below_drewN | with_reducible apply Below.alloc | with_reducible apply Below.setCell | (with_reducible refine Below.trans ?_ (Below.mono (by assumption) ?_)) | (simp; done) | (simp; omega) | omega | with_reducible apply le_size_alloc | with_reducible apply le_size_drewN | with_reducible apply le_size_drew | with_reducible apply le_size_setCell | refine Nat.le_trans ?_ (Below.size (by assumption))))⟩
  · have HE : Hid (oveR (s, f, g) = (false, z)) := by show _ = _; unfold oveR; rw [if_neg (by rw [hz]; exact h0), hz]
    have nz : (z != 0) = true := by simpa using h0
    have HZ := Lib.hid hz
    clear hz
    go_enter Tryd.func22, Tryd.ntmps22
    go_wp2_with fail
    refine (Check_any s f g _ HZ.out).mono ?_
    rintro e w1 ⟨rfl, hb1⟩
    go_wp2_with fail
    go_ret2
    rw [HE.out]
    exact ⟨rfl, (by repeat' (first | with_reducible exact Below.refl _ _ | with_reducible assumption | with_reducible apply Below.drew | with_reducible apply below_drewN | with_reducible apply Below.alloc | with_reducible apply Below.setCell | (with_reducible refine Below.trans ?_ (Below.mono (by assumption) ?_)) | (simp; done) | (simp; omega) | omega | with_reducible apply le_size_alloc | with_reducible apply le_size_drewN | with_reducible apply le_size_drew | with_reducible apply le_size_setCell | refine Nat.le_trans ?_ (Below.size (by assumption))))⟩
set_option maxRecDepth 100000 in
set_option maxHeartbeats 4000000 in
theorem Needs_any (s f g : Int) (w : World) :
    Calls Tryd.prog 12 #[.agg #[.int .i64 s, .int .i64 f, .int .i64 g]] w fun e w' => e = .returned (.tuple #[.int .i64 (neeR (s, f, g)).1, .int .i64 (neeR (s, f, g)).2]) ∧ Below w.heap.size w w' := by
  obtain ⟨z, hz⟩ : ∃ z, chkR (s, f, g) = z := ⟨_, rfl⟩
  by_cases h0 : z = 0
  · subst h0
    have HE : Hid (neeR (s, f, g) = (ndsR (s, f, g), 0)) := by show _ = _; unfold neeR; rw [if_pos hz]
    obtain ⟨h1, h8⟩ := chk_state hz
    have HZ := Lib.hid hz
    clear hz
    by_cases hg : g = -1
    all_goals
      have HG := Lib.hid hg
      first | (have hgb : (g == -1) = true := by simpa using hg) | (have hgb : (g == -1) = false := by simpa using hg)
      clear hg
      rcases (by omega : s = 1 ∨ s = 2 ∨ s = 3 ∨ s = 4 ∨ s = 5 ∨ s = 6 ∨ s = 7 ∨ s = 8) with rfl | rfl | rfl | rfl | rfl | rfl | rfl | rfl
      all_goals
        go_enter Tryd.func12, Tryd.ntmps12
        go_wp2_with fail
        refine (Check_any _ f g _ HZ.out).mono ?_
        rintro e w1 ⟨rfl, hb1⟩
        have q0 := cell_keep (p := ⟨w.heap.size, 0, none⟩) hb1 (by simp; rfl) (by simp)
        have q2 : w1.cell? ⟨w.heap.size, 2, none⟩ = some (.int .i64 g) := cell_keep hb1 (by simp) (by simp)
        go_wp2_with fail
        go_ret2
        rw [HE.out]
        refine ⟨?_, (by repeat' (first | with_reducible exact Below.refl _ _ | with_reducible assumption | with_reducible apply Below.drew | with_reducible apply below_drewN | with_reducible apply Below.alloc | with_reducible apply Below.setCell | (with_reducible refine Below.trans ?_ (Below.mono (by assumption) ?_)) | (simp; done) | (simp; omega) | omega | with_reducible apply le_size_alloc | with_reducible apply le_size_drewN | with_reducible apply le_size_drew | with_reducible apply le_size_setCell | refine Nat.le_trans ?_ (Below.size (by assumption))))⟩
        simp [ndsR, HG.out]
  · have HE : Hid (neeR (s, f, g) = (0, z)) := by show _ = _; unfold neeR; rw [if_neg (by rw [hz]; exact h0), hz]
    have nz : (z != 0) = true := by simpa using h0
    have HZ := Lib.hid hz
    clear hz
    go_enter Tryd.func12, Tryd.ntmps12
    go_wp2_with fail
    refine (Check_any s f g _ HZ.out).mono ?_
    rintro e w1 ⟨rfl, hb1⟩
    go_wp2_with fail
    go_ret2
    rw [HE.out]
    exact ⟨rfl, (by repeat' (first | with_reducible exact Below.refl _ _ | with_reducible assumption | with_reducible apply Below.drew | with_reducible apply below_drewN | with_reducible apply Below.alloc | with_reducible apply Below.setCell | (with_reducible refine Below.trans ?_ (Below.mono (by assumption) ?_)) | (simp; done) | (simp; omega) | omega | with_reducible apply le_size_alloc | with_reducible apply le_size_drewN | with_reducible apply le_size_drew | with_reducible apply le_size_setCell | refine Nat.le_trans ?_ (Below.size (by assumption))))⟩
end Go.Proofs.YtngenoblifhnpaaDoor
