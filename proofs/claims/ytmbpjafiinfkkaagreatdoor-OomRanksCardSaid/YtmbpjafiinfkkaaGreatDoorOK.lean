/- Package oom: K, Safe; the reference's. Written by gen_ok.py. -/
import Derived.Test.YtmbpjafiinfkkaaGreatDoorZF4
namespace Go.Proofs.YtmbpjafiinfkkaaGreatDoor
set_option linter.unusedSimpArgs false
set_option linter.unusedVariables false
open Go.RowKit Go.Maps

def kN (Q mn : Int) : Int := mn + (Q + 7) / 8 + 82
def safeB (F S k mapped : Int) : Bool := decide (k ≤ F) && decide (mapped ≤ F + S - k)
def safeE (z mapped : Int) : Int := if z = 0 then (if mapped < 0 ∨ 512 < mapped then 2 else 0) else z
theorem fitE_ok {F L S C Q mn lo hi M : Int} (h : fitE F L S C Q mn lo hi M = 0) : (16 ≤ F ∧ F ≤ 256) ∧ (1 ≤ S ∧ S ≤ 256) ∧ (1 ≤ Q ∧ Q ≤ 32) ∧ 0 ≤ mn ∧ mn ≤ 256 := by
  unfold fitE at h
  split at h
  · split at h
    · omega
    · simp at h
  · simp at h

set_option maxRecDepth 100000 in
set_option maxHeartbeats 4000000 in
theorem K_any (F L S C Q mn lo hi M : Int) (w : World) : Calls Tryz.prog 25 #[cfgV F L S C Q mn lo hi M] w fun e w' => e = .returned (.tuple #[.int .i64 (if fitE F L S C Q mn lo hi M = 0 then kN Q mn else 0), .int .i64 (fitE F L S C Q mn lo hi M)]) ∧ Below w.heap.size w w' := by
  have hC := Fit_any F L S C Q mn lo hi M
  obtain ⟨z, hz⟩ : ∃ z, fitE F L S C Q mn lo hi M = z := ⟨_, rfl⟩
  have hok : z = 0 → (1 ≤ Q ∧ Q ≤ 32) ∧ 0 ≤ mn ∧ mn ≤ 256 := fun h => by have := fitE_ok (hz.trans h); omega
  rw [hz] at hC ⊢
  clear hz
  unfold cfgV at hC ⊢
  by_cases h0 : z = 0
  · subst h0
    obtain ⟨⟨q1, q2⟩, m0, m1⟩ := hok rfl
    have hC1 : ∀ w, Calls Tryz.prog 53 #[.agg #[.int .i64 F, .int .i64 L, .int .i64 S, .int .i64 C, .int .i64 Q, .int .i64 mn, .int .i64 lo, .int .i64 hi, .int .i64 M]] w fun e w' => e = .returned (.tuple #[.agg #[.int .i64 mn, .int .i64 lo, .int .i64 hi], .int .i64 0]) ∧ Below w.heap.size w w' := hC
    have hq : (Q + 7).tdiv 8 = (Q + 7) / 8 := Int.tdiv_eq_ediv_of_nonneg (by omega)
    have hk : Hid (kN Q mn = mn + (Q + 7) / 8 + 72 + 10) := by show _ = _; unfold kN; omega
    clear hC hok
    rw [if_pos rfl]
    go_enter Tryz.func25, Tryz.ntmps25
    go_wp2_with fail
    refine (hC1 _).mono ?_
    rintro e w1 ⟨rfl, hb1⟩
    have kB : Blk w1 w.heap.size 46 #[.int .i64 F, .int .i64 L, .int .i64 S, .int .i64 C, .int .i64 Q, .int .i64 mn, .int .i64 lo, .int .i64 hi, .int .i64 M] := (Blk.new_ rfl rfl).below_ hb1 (by simp)
    have z1 := kB.lt
    have c4 := kB.cell_ 4; have c5 := kB.cell_ 5
    simp at c4 c5
    go_wp2
    refine bodyPost_ret (v := .tuple #[.int .i64 (mn + (Q + 7) / 8 + 72 + 10), .int .i64 0]) (by simp [results, Tryz.results25, go_sem]) rfl ?_
    exact ⟨by rw [hk.out], (by repeat' (first | with_reducible exact Below.refl _ _ | with_reducible assumption | with_reducible apply Below.drew | with_reducible apply below_drewN | with_reducible apply Below.alloc | with_reducible apply Below.setCell | (with_reducible refine Below.trans ?_ (Below.mono (by assumption) ?_)) | (simp; done) | (simp; omega) | omega | with_reducible apply le_size_alloc | with_reducible apply le_size_drewN | with_reducible apply le_size_drew | with_reducible apply le_size_setCell | refine Nat.le_trans ?_ (Below.size (by assumption))))⟩
  · have hC1 : ∀ w, Calls Tryz.prog 53 #[.agg #[.int .i64 F, .int .i64 L, .int .i64 S, .int .i64 C, .int .i64 Q, .int .i64 mn, .int .i64 lo, .int .i64 hi, .int .i64 M]] w fun e w' => e = .returned (.tuple #[.agg #[.int .i64 0, .int .i64 0, .int .i64 0], .int .i64 z]) ∧ Below w.heap.size w w' := fun w => by
      have := hC w
      unfold fitV at this
      rw [if_neg h0] at this
      exact this
    have hb : (z != 0) = true := by simpa using h0
    rw [if_neg h0]
    clear hC hok h0
    go_enter Tryz.func25, Tryz.ntmps25
    go_wp2_with fail
    refine (hC1 _).mono ?_
    rintro e w1 ⟨rfl, hb1⟩
    go_wp2
    refine bodyPost_ret (v := .tuple #[.int .i64 0, .int .i64 z]) (by simp [results, Tryz.results25, go_sem]) rfl ?_
    exact ⟨rfl, (by repeat' (first | with_reducible exact Below.refl _ _ | with_reducible assumption | with_reducible apply Below.drew | with_reducible apply below_drewN | with_reducible apply Below.alloc | with_reducible apply Below.setCell | (with_reducible refine Below.trans ?_ (Below.mono (by assumption) ?_)) | (simp; done) | (simp; omega) | omega | with_reducible apply le_size_alloc | with_reducible apply le_size_drewN | with_reducible apply le_size_drew | with_reducible apply le_size_setCell | refine Nat.le_trans ?_ (Below.size (by assumption))))⟩

set_option maxRecDepth 100000 in
set_option maxHeartbeats 4000000 in
theorem Safe_any (F L S C Q mn lo hi M mapped : Int) (w : World) : Calls Tryz.prog 27 #[cfgV F L S C Q mn lo hi M, .int .i64 mapped] w fun e w' => e = .returned (.tuple #[.bool (if safeE (fitE F L S C Q mn lo hi M) mapped = 0 then safeB F S (kN Q mn) mapped else false), .int .i64 (safeE (fitE F L S C Q mn lo hi M) mapped)]) ∧ Below w.heap.size w w' := by
  have hC := K_any F L S C Q mn lo hi M
  obtain ⟨z, hz⟩ : ∃ z, fitE F L S C Q mn lo hi M = z := ⟨_, rfl⟩
  have hok : z = 0 → (16 ≤ F ∧ F ≤ 256) ∧ (1 ≤ S ∧ S ≤ 256) ∧ 0 ≤ kN Q mn ∧ kN Q mn ≤ 1000 := fun h => by have := fitE_ok (hz.trans h); unfold kN; omega
  rw [hz] at hC ⊢
  clear hz
  unfold cfgV at hC ⊢
  by_cases h0 : z = 0
  · subst h0
    obtain ⟨⟨f0, f1⟩, ⟨s0, s1⟩, k0, k1⟩ := hok rfl
    rw [if_pos rfl] at hC
    clear hok
    generalize kN Q mn = k at *
    by_cases hm : mapped < 0 ∨ 512 < mapped
    · have e2 : safeE 0 mapped = 2 := by unfold safeE; rw [if_pos rfl, if_pos hm]
      rw [e2, if_neg (by decide)]
      clear e2
      rcases (by omega : mapped < 0 ∨ (0 ≤ mapped ∧ 512 < mapped)) with h1 | ⟨h1, h2⟩
      all_goals
        clear hm
        go_enter Tryz.func27, Tryz.ntmps27
        go_wp2_with fail
        refine (hC _).mono ?_
        rintro e w1 ⟨rfl, hb1⟩
        go_wp2
        refine bodyPost_ret (v := .tuple #[.bool false, .int .i64 2]) (by simp [results, Tryz.results27, go_sem]) rfl ?_
        exact ⟨rfl, (by repeat' (first | with_reducible exact Below.refl _ _ | with_reducible assumption | with_reducible apply Below.drew | with_reducible apply below_drewN | with_reducible apply Below.alloc | with_reducible apply Below.setCell | (with_reducible refine Below.trans ?_ (Below.mono (by assumption) ?_)) | (simp; done) | (simp; omega) | omega | with_reducible apply le_size_alloc | with_reducible apply le_size_drewN | with_reducible apply le_size_drew | with_reducible apply le_size_setCell | refine Nat.le_trans ?_ (Below.size (by assumption))))⟩
    · have e2 : safeE 0 mapped = 0 := by unfold safeE; rw [if_pos rfl, if_neg hm]
      rw [e2, if_pos rfl]
      obtain ⟨h1, h2⟩ : 0 ≤ mapped ∧ mapped ≤ 512 := by omega
      clear e2 hm
      by_cases h3 : k ≤ F
      · have HV : Hid (safeB F S k mapped = decide (mapped ≤ F + S - k)) := by show _ = _; unfold safeB; simp [h3]
        go_enter Tryz.func27, Tryz.ntmps27
        go_wp2_with fail
        refine (hC _).mono ?_
        rintro e w1 ⟨rfl, hb1⟩
        have kB : Blk w1 w.heap.size 46 #[.int .i64 F, .int .i64 L, .int .i64 S, .int .i64 C, .int .i64 Q, .int .i64 mn, .int .i64 lo, .int .i64 hi, .int .i64 M] := (Blk.new_ rfl rfl).below_ hb1 (by simp)
        have z1 := kB.lt
        have c0 := kB.cell_ 0; have c2 := kB.cell_ 2
        simp at c0 c2
        go_wp2
        refine bodyPost_ret (v := .tuple #[.bool (decide (mapped ≤ F + S - k)), .int .i64 0]) (by simp [results, Tryz.results27, go_sem]) rfl ?_
        exact ⟨by rw [HV.out], (by repeat' (first | with_reducible exact Below.refl _ _ | with_reducible assumption | with_reducible apply Below.drew | with_reducible apply below_drewN | with_reducible apply Below.alloc | with_reducible apply Below.setCell | (with_reducible refine Below.trans ?_ (Below.mono (by assumption) ?_)) | (simp; done) | (simp; omega) | omega | with_reducible apply le_size_alloc | with_reducible apply le_size_drewN | with_reducible apply le_size_drew | with_reducible apply le_size_setCell | refine Nat.le_trans ?_ (Below.size (by assumption))))⟩
      · have HV : Hid (safeB F S k mapped = false) := by show _ = _; unfold safeB; simp [h3]
        go_enter Tryz.func27, Tryz.ntmps27
        go_wp2_with fail
        refine (hC _).mono ?_
        rintro e w1 ⟨rfl, hb1⟩
        have kB : Blk w1 w.heap.size 46 #[.int .i64 F, .int .i64 L, .int .i64 S, .int .i64 C, .int .i64 Q, .int .i64 mn, .int .i64 lo, .int .i64 hi, .int .i64 M] := (Blk.new_ rfl rfl).below_ hb1 (by simp)
        have z1 := kB.lt
        have c0 := kB.cell_ 0; have c2 := kB.cell_ 2
        simp at c0 c2
        go_wp2
        refine bodyPost_ret (v := .tuple #[.bool false, .int .i64 0]) (by simp [results, Tryz.results27, go_sem]) rfl ?_
        exact ⟨by rw [HV.out], (by repeat' (first | with_reducible exact Below.refl _ _ | with_reducible assumption | with_reducible apply Below.drew | with_reducible apply below_drewN | with_reducible apply Below.alloc | with_reducible apply Below.setCell | (with_reducible refine Below.trans ?_ (Below.mono (by assumption) ?_)) | (simp; done) | (simp; omega) | omega | with_reducible apply le_size_alloc | with_reducible apply le_size_drewN | with_reducible apply le_size_drew | with_reducible apply le_size_setCell | refine Nat.le_trans ?_ (Below.size (by assumption))))⟩
  · rw [if_neg h0] at hC
    have e2 : safeE z mapped = z := if_neg h0
    rw [e2, if_neg h0]
    have hb : (z != 0) = true := by simpa using h0
    clear hok h0 e2
    go_enter Tryz.func27, Tryz.ntmps27
    go_wp2_with fail
    refine (hC _).mono ?_
    rintro e w1 ⟨rfl, hb1⟩
    go_wp2
    refine bodyPost_ret (v := .tuple #[.bool false, .int .i64 z]) (by simp [results, Tryz.results27, go_sem]) rfl ?_
    exact ⟨rfl, (by repeat' (first | with_reducible exact Below.refl _ _ | with_reducible assumption | with_reducible apply Below.drew | with_reducible apply below_drewN | with_reducible apply Below.alloc | with_reducible apply Below.setCell | (with_reducible refine Below.trans ?_ (Below.mono (by assumption) ?_)) | (simp; done) | (simp; omega) | omega | with_reducible apply le_size_alloc | with_reducible apply le_size_drewN | with_reducible apply le_size_drew | with_reducible apply le_size_setCell | refine Nat.le_trans ?_ (Below.size (by assumption))))⟩

set_option maxRecDepth 100000 in
set_option maxHeartbeats 4000000 in
theorem rK_any (F L S C Q mn lo hi M : Int) (w : World) : Calls Tryz.prog 26 #[cfgV F L S C Q mn lo hi M] w fun e w' => e = .returned (.tuple #[.int .i64 (if fitE F L S C Q mn lo hi M = 0 then kN Q mn else 0), .int .i64 (fitE F L S C Q mn lo hi M)]) ∧ Below w.heap.size w w' := by
  have hC := rFit_any F L S C Q mn lo hi M
  obtain ⟨z, hz⟩ : ∃ z, fitE F L S C Q mn lo hi M = z := ⟨_, rfl⟩
  have hok : z = 0 → (1 ≤ Q ∧ Q ≤ 32) ∧ 0 ≤ mn ∧ mn ≤ 256 := fun h => by have := fitE_ok (hz.trans h); omega
  rw [hz] at hC ⊢
  clear hz
  unfold cfgV at hC ⊢
  by_cases h0 : z = 0
  · subst h0
    obtain ⟨⟨q1, q2⟩, m0, m1⟩ := hok rfl
    have hC1 : ∀ w, Calls Tryz.prog 54 #[.agg #[.int .i64 F, .int .i64 L, .int .i64 S, .int .i64 C, .int .i64 Q, .int .i64 mn, .int .i64 lo, .int .i64 hi, .int .i64 M]] w fun e w' => e = .returned (.tuple #[.agg #[.int .i64 mn, .int .i64 lo, .int .i64 hi], .int .i64 0]) ∧ Below w.heap.size w w' := hC
    have hq : (Q + 7).tdiv 8 = (Q + 7) / 8 := Int.tdiv_eq_ediv_of_nonneg (by omega)
    have hk : Hid (kN Q mn = mn + (Q + 7) / 8 + 72 + 10) := by show _ = _; unfold kN; omega
    clear hC hok
    rw [if_pos rfl]
    go_enter Tryz.func26, Tryz.ntmps26
    go_wp2_with fail
    refine (hC1 _).mono ?_
    rintro e w1 ⟨rfl, hb1⟩
    have kB : Blk w1 w.heap.size 46 #[.int .i64 F, .int .i64 L, .int .i64 S, .int .i64 C, .int .i64 Q, .int .i64 mn, .int .i64 lo, .int .i64 hi, .int .i64 M] := (Blk.new_ rfl rfl).below_ hb1 (by simp)
    have z1 := kB.lt
    have c4 := kB.cell_ 4; have c5 := kB.cell_ 5
    simp at c4 c5
    go_wp2
    refine bodyPost_ret (v := .tuple #[.int .i64 (mn + (Q + 7) / 8 + 72 + 10), .int .i64 0]) (by simp [results, Tryz.results26, go_sem]) rfl ?_
    exact ⟨by rw [hk.out], (by repeat' (first | with_reducible exact Below.refl _ _ | with_reducible assumption | with_reducible apply Below.drew | with_reducible apply below_drewN | with_reducible apply Below.alloc | with_reducible apply Below.setCell | (with_reducible refine Below.trans ?_ (Below.mono (by assumption) ?_)) | (simp; done) | (simp; omega) | omega | with_reducible apply le_size_alloc | with_reducible apply le_size_drewN | with_reducible apply le_size_drew | with_reducible apply le_size_setCell | refine Nat.le_trans ?_ (Below.size (by assumption))))⟩
  · have hC1 : ∀ w, Calls Tryz.prog 54 #[.agg #[.int .i64 F, .int .i64 L, .int .i64 S, .int .i64 C, .int .i64 Q, .int .i64 mn, .int .i64 lo, .int .i64 hi, .int .i64 M]] w fun e w' => e = .returned (.tuple #[.agg #[.int .i64 0, .int .i64 0, .int .i64 0], .int .i64 z]) ∧ Below w.heap.size w w' := fun w => by
      have := hC w
      unfold fitV at this
      rw [if_neg h0] at this
      exact this
    have hb : (z != 0) = true := by simpa using h0
    rw [if_neg h0]
    clear hC hok h0
    go_enter Tryz.func26, Tryz.ntmps26
    go_wp2_with fail
    refine (hC1 _).mono ?_
    rintro e w1 ⟨rfl, hb1⟩
    go_wp2
    refine bodyPost_ret (v := .tuple #[.int .i64 0, .int .i64 z]) (by simp [results, Tryz.results26, go_sem]) rfl ?_
    exact ⟨rfl, (by repeat' (first | with_reducible exact Below.refl _ _ | with_reducible assumption | with_reducible apply Below.drew | with_reducible apply below_drewN | with_reducible apply Below.alloc | with_reducible apply Below.setCell | (with_reducible refine Below.trans ?_ (Below.mono (by assumption) ?_)) | (simp; done) | (simp; omega) | omega | with_reducible apply le_size_alloc | with_reducible apply le_size_drewN | with_reducible apply le_size_drew | with_reducible apply le_size_setCell | refine Nat.le_trans ?_ (Below.size (by assumption))))⟩

set_option maxRecDepth 100000 in
set_option maxHeartbeats 4000000 in
theorem rSafe_any (F L S C Q mn lo hi M mapped : Int) (w : World) : Calls Tryz.prog 28 #[cfgV F L S C Q mn lo hi M, .int .i64 mapped] w fun e w' => e = .returned (.tuple #[.bool (if safeE (fitE F L S C Q mn lo hi M) mapped = 0 then safeB F S (kN Q mn) mapped else false), .int .i64 (safeE (fitE F L S C Q mn lo hi M) mapped)]) ∧ Below w.heap.size w w' := by
  have hC := rK_any F L S C Q mn lo hi M
  obtain ⟨z, hz⟩ : ∃ z, fitE F L S C Q mn lo hi M = z := ⟨_, rfl⟩
  have hok : z = 0 → (16 ≤ F ∧ F ≤ 256) ∧ (1 ≤ S ∧ S ≤ 256) ∧ 0 ≤ kN Q mn ∧ kN Q mn ≤ 1000 := fun h => by have := fitE_ok (hz.trans h); unfold kN; omega
  rw [hz] at hC ⊢
  clear hz
  unfold cfgV at hC ⊢
  by_cases h0 : z = 0
  · subst h0
    obtain ⟨⟨f0, f1⟩, ⟨s0, s1⟩, k0, k1⟩ := hok rfl
    rw [if_pos rfl] at hC
    clear hok
    generalize kN Q mn = k at *
    by_cases hm : mapped < 0 ∨ 512 < mapped
    · have e2 : safeE 0 mapped = 2 := by unfold safeE; rw [if_pos rfl, if_pos hm]
      rw [e2, if_neg (by decide)]
      clear e2
      rcases (by omega : mapped < 0 ∨ (0 ≤ mapped ∧ 512 < mapped)) with h1 | ⟨h1, h2⟩
      all_goals
        clear hm
        go_enter Tryz.func28, Tryz.ntmps28
        go_wp2_with fail
        refine (hC _).mono ?_
        rintro e w1 ⟨rfl, hb1⟩
        go_wp2
        refine bodyPost_ret (v := .tuple #[.bool false, .int .i64 2]) (by simp [results, Tryz.results28, go_sem]) rfl ?_
        exact ⟨rfl, (by repeat' (first | with_reducible exact Below.refl _ _ | with_reducible assumption | with_reducible apply Below.drew | with_reducible apply below_drewN | with_reducible apply Below.alloc | with_reducible apply Below.setCell | (with_reducible refine Below.trans ?_ (Below.mono (by assumption) ?_)) | (simp; done) | (simp; omega) | omega | with_reducible apply le_size_alloc | with_reducible apply le_size_drewN | with_reducible apply le_size_drew | with_reducible apply le_size_setCell | refine Nat.le_trans ?_ (Below.size (by assumption))))⟩
    · have e2 : safeE 0 mapped = 0 := by unfold safeE; rw [if_pos rfl, if_neg hm]
      rw [e2, if_pos rfl]
      obtain ⟨h1, h2⟩ : 0 ≤ mapped ∧ mapped ≤ 512 := by omega
      clear e2 hm
      by_cases h3 : k ≤ F
      · have HV : Hid (safeB F S k mapped = decide (mapped ≤ F + S - k)) := by show _ = _; unfold safeB; simp [h3]
        go_enter Tryz.func28, Tryz.ntmps28
        go_wp2_with fail
        refine (hC _).mono ?_
        rintro e w1 ⟨rfl, hb1⟩
        have kB : Blk w1 w.heap.size 46 #[.int .i64 F, .int .i64 L, .int .i64 S, .int .i64 C, .int .i64 Q, .int .i64 mn, .int .i64 lo, .int .i64 hi, .int .i64 M] := (Blk.new_ rfl rfl).below_ hb1 (by simp)
        have z1 := kB.lt
        have c0 := kB.cell_ 0; have c2 := kB.cell_ 2
        simp at c0 c2
        go_wp2
        refine bodyPost_ret (v := .tuple #[.bool (decide (mapped ≤ F + S - k)), .int .i64 0]) (by simp [results, Tryz.results28, go_sem]) rfl ?_
        exact ⟨by rw [HV.out], (by repeat' (first | with_reducible exact Below.refl _ _ | with_reducible assumption | with_reducible apply Below.drew | with_reducible apply below_drewN | with_reducible apply Below.alloc | with_reducible apply Below.setCell | (with_reducible refine Below.trans ?_ (Below.mono (by assumption) ?_)) | (simp; done) | (simp; omega) | omega | with_reducible apply le_size_alloc | with_reducible apply le_size_drewN | with_reducible apply le_size_drew | with_reducible apply le_size_setCell | refine Nat.le_trans ?_ (Below.size (by assumption))))⟩
      · have HV : Hid (safeB F S k mapped = false) := by show _ = _; unfold safeB; simp [h3]
        go_enter Tryz.func28, Tryz.ntmps28
        go_wp2_with fail
        refine (hC _).mono ?_
        rintro e w1 ⟨rfl, hb1⟩
        have kB : Blk w1 w.heap.size 46 #[.int .i64 F, .int .i64 L, .int .i64 S, .int .i64 C, .int .i64 Q, .int .i64 mn, .int .i64 lo, .int .i64 hi, .int .i64 M] := (Blk.new_ rfl rfl).below_ hb1 (by simp)
        have z1 := kB.lt
        have c0 := kB.cell_ 0; have c2 := kB.cell_ 2
        simp at c0 c2
        go_wp2
        refine bodyPost_ret (v := .tuple #[.bool false, .int .i64 0]) (by simp [results, Tryz.results28, go_sem]) rfl ?_
        exact ⟨by rw [HV.out], (by repeat' (first | with_reducible exact Below.refl _ _ | with_reducible assumption | with_reducible apply Below.drew | with_reducible apply below_drewN | with_reducible apply Below.alloc | with_reducible apply Below.setCell | (with_reducible refine Below.trans ?_ (Below.mono (by assumption) ?_)) | (simp; done) | (simp; omega) | omega | with_reducible apply le_size_alloc | with_reducible apply le_size_drewN | with_reducible apply le_size_drew | with_reducible apply le_size_setCell | refine Nat.le_trans ?_ (Below.size (by assumption))))⟩
  · rw [if_neg h0] at hC
    have e2 : safeE z mapped = z := if_neg h0
    rw [e2, if_neg h0]
    have hb : (z != 0) = true := by simpa using h0
    clear hok h0 e2
    go_enter Tryz.func28, Tryz.ntmps28
    go_wp2_with fail
    refine (hC _).mono ?_
    rintro e w1 ⟨rfl, hb1⟩
    go_wp2
    refine bodyPost_ret (v := .tuple #[.bool false, .int .i64 z]) (by simp [results, Tryz.results28, go_sem]) rfl ?_
    exact ⟨rfl, (by repeat' (first | with_reducible exact Below.refl _ _ | with_reducible assumption | with_reducible apply Below.drew | with_reducible apply below_drewN | with_reducible apply Below.alloc | with_reducible apply Below.setCell | (with_reducible refine Below.trans ?_ (Below.mono (by assumption) ?_)) | (simp; done) | (simp; omega) | omega | with_reducible apply le_size_alloc | with_reducible apply le_size_drewN | with_reducible apply le_size_drew | with_reducible apply le_size_setCell | refine Nat.le_trans ?_ (Below.size (by assumption))))⟩
end Go.Proofs.YtmbpjafiinfkkaaGreatDoor
