/- BalanceGrows: the statement holds for every number. -/
import Derived.Test.YtifimhfdapkpoaaBal3
import Derived.Test.YtifimhfdapkpoaaClose
namespace Go.Proofs.Ytifimhfdapkpoaa
open Go.RowKit Go.Maps
open Go.ChangeShapes Go.WideShapes Go.ChangeAt

theorem rat_mono (k : Int) : rat k ≤ rat (k + 1) := by unfold rat; repeat' split
                                                       all_goals omega
theorem rat_cases (k : Int) : (256 ≤ k ∧ rat k = 8) ∨ (196 ≤ k ∧ k < 256 ∧ rat k = 7) ∨ (144 ≤ k ∧ k < 196 ∧ rat k = 6) ∨ (100 ≤ k ∧ k < 144 ∧ rat k = 5) ∨ (64 ≤ k ∧ k < 100 ∧ rat k = 4) ∨
    (36 ≤ k ∧ k < 64 ∧ rat k = 3) ∨ (16 ≤ k ∧ k < 36 ∧ rat k = 2) ∨ (k < 16 ∧ rat k = 1) := by
  unfold rat; repeat' split
  all_goals omega
theorem rat_sq (k : Int) (h : 1 < rat k) : 4 * rat k * rat k ≤ k ∧ 16 ≤ k := by
  rcases rat_cases k with ⟨_, e⟩ | ⟨_, _, e⟩ | ⟨_, _, e⟩ | ⟨_, _, e⟩ | ⟨_, _, e⟩ | ⟨_, _, e⟩ | ⟨_, _, e⟩ | ⟨_, e⟩ <;> rw [e] at h ⊢ <;> omega
theorem rat_sq' (k : Int) (h0 : k ≤ 256) : k < 4 * (rat k + 1) * (rat k + 1) := by
  rcases rat_cases k with ⟨_, e⟩ | ⟨_, _, e⟩ | ⟨_, _, e⟩ | ⟨_, _, e⟩ | ⟨_, _, e⟩ | ⟨_, _, e⟩ | ⟨_, _, e⟩ | ⟨_, e⟩ <;> rw [e] <;> omega
theorem tgt_ge (k : Int) : k ≤ tgt k * (rat k + 1) := by
  obtain ⟨a, b⟩ := rat_bd k
  unfold tgt
  have h1 := Int.emod_lt_of_pos (k + rat k) (show 0 < rat k + 1 by omega)
  have h2 := Int.mul_ediv_add_emod (k + rat k) (rat k + 1)
  rw [Int.mul_comm]
  omega
theorem tgt_lt (k : Int) : (tgt k - 1) * (rat k + 1) < k := by
  obtain ⟨a, b⟩ := rat_bd k
  unfold tgt
  have h1 := Int.emod_nonneg (k + rat k) (show rat k + 1 ≠ 0 by omega)
  have h2 := Int.mul_ediv_add_emod (k + rat k) (rat k + 1)
  rw [Int.sub_mul, Int.one_mul, Int.mul_comm]
  omega

set_option maxHeartbeats 1000000 in
theorem balanceGrows_walk (n : Int) (_h : (Lit.int .i64 n).wf = true) (w : World) :
    Calls Try.prog 3 #[.int .i64 n] w fun e w' => e = .returned (.bool true) ∧ Below w.heap.size w w' := by
  obtain ⟨k, hk⟩ : ∃ k, k = n % 256 := ⟨_, rfl⟩
  have hk0 : 0 ≤ k := by omega
  have hk1 : k ≤ 255 := by omega
  have f1 := rat_mono k
  have f2 := rat_bd k
  have f3 := rat_sq k
  have f4 := rat_sq' k (by omega)
  have f5 := tgt_bd k hk0 (by omega)
  have f6 := tgt_ge k
  have f7 := tgt_lt k
  obtain ⟨a, ha⟩ : ∃ a, a = rat k := ⟨_, rfl⟩
  obtain ⟨b, hb⟩ : ∃ b, b = rat (k + 1) := ⟨_, rfl⟩
  obtain ⟨t, ht⟩ : ∃ t, t = tgt k := ⟨_, rfl⟩
  rw [← ha] at f1 f2 f3 f4 f6 f7
  rw [← hb] at f1
  rw [← ht] at f5 f6 f7
  have fb := rat_bd (k + 1)
  rw [← hb] at fb
  obtain ⟨f20, f21⟩ := f2
  obtain ⟨f50, f51⟩ := f5
  obtain ⟨fb0, fb1⟩ := fb
  have HK := Lib.hid hk; have HA := Lib.hid ha; have HB := Lib.hid hb; have HT := Lib.hid ht
  clear hk ha hb ht
  have m1 : 0 ≤ t * (a + 1) := Int.mul_nonneg (by omega) (by omega)
  have m2 : t * (a + 1) ≤ 256 * 9 := Int.mul_le_mul (by omega) (by omega) (by omega) (by omega)
  have m3 : -9 ≤ (t - 1) * (a + 1) := by
    have e : (t - 1) * (a + 1) = t * (a + 1) - (a + 1) := by rw [Int.sub_mul, Int.one_mul]
    omega
  have m4 : 4 * a * a ≤ 32 * 8 := Int.mul_le_mul (by omega) (by omega) (by omega) (by omega)
  have m5 : 4 * (a + 1) * (a + 1) ≤ 36 * 9 := Int.mul_le_mul (by omega) (by omega) (by omega) (by omega)
  have m6 : 0 ≤ 4 * a * a := Int.mul_nonneg (by omega) (by omega)
  have c0 : (0 < t ∧ 0 < k) ∨ (t ≤ 0 ∧ k ≤ 0) := by
    rcases (by omega : t = 0 ∨ 0 < t) with rfl | h
    · simp at f6; omega
    · omega
  by_cases c1 : 1 < a
  · obtain ⟨f3', f3''⟩ := f3 c1
    clear f3
    have c2 : 0 < k := by omega
    have c3 : 0 < t := by omega
    clear c0
    go_enter Try.func3, Try.ntmps3
    go_wp2_with fail
    refine (Mod_any _ _ _ (by omega) (by omega)).mono ?_
    rw [← HK.out]
    rintro e w' ⟨rfl, rfl⟩
    go_wp2_with fail
    refine (Ratio_any _ _).mono ?_
    rw [if_pos (by omega), ← HA.out]
    rintro e w' ⟨rfl, rfl⟩
    go_wp2_with fail
    refine (Ratio_any _ _).mono ?_
    rw [if_pos (by omega), ← HB.out]
    rintro e w' ⟨rfl, rfl⟩
    go_wp2_with fail
    refine (Target_any _ _).mono ?_
    rw [if_pos (by omega), ← HT.out]
    rintro e w' ⟨rfl, rfl⟩
    go_wp2_with fail
    refine (awake_any _).mono ?_
    rintro e w' ⟨rfl, hb1⟩
    go_wp2
    go_ret
    exact ⟨by simp, hb1⟩
  · clear f3
    rcases c0 with ⟨c3, c2⟩ | ⟨c3, c2⟩
    · go_enter Try.func3, Try.ntmps3
      go_wp2_with fail
      refine (Mod_any _ _ _ (by omega) (by omega)).mono ?_
      rw [← HK.out]
      rintro e w' ⟨rfl, rfl⟩
      go_wp2_with fail
      refine (Ratio_any _ _).mono ?_
      rw [if_pos (by omega), ← HA.out]
      rintro e w' ⟨rfl, rfl⟩
      go_wp2_with fail
      refine (Ratio_any _ _).mono ?_
      rw [if_pos (by omega), ← HB.out]
      rintro e w' ⟨rfl, rfl⟩
      go_wp2_with fail
      refine (Target_any _ _).mono ?_
      rw [if_pos (by omega), ← HT.out]
      rintro e w' ⟨rfl, rfl⟩
      go_wp2_with fail
      refine (awake_any _).mono ?_
      rintro e w' ⟨rfl, hb1⟩
      go_wp2
      go_ret
      exact ⟨by simp, hb1⟩
    · go_enter Try.func3, Try.ntmps3
      go_wp2_with fail
      refine (Mod_any _ _ _ (by omega) (by omega)).mono ?_
      rw [← HK.out]
      rintro e w' ⟨rfl, rfl⟩
      go_wp2_with fail
      refine (Ratio_any _ _).mono ?_
      rw [if_pos (by omega), ← HA.out]
      rintro e w' ⟨rfl, rfl⟩
      go_wp2_with fail
      refine (Ratio_any _ _).mono ?_
      rw [if_pos (by omega), ← HB.out]
      rintro e w' ⟨rfl, rfl⟩
      go_wp2_with fail
      refine (Target_any _ _).mono ?_
      rw [if_pos (by omega), ← HT.out]
      rintro e w' ⟨rfl, rfl⟩
      go_wp2_with fail
      refine (awake_any _).mono ?_
      rintro e w' ⟨rfl, hb1⟩
      go_wp2
      go_ret
      exact ⟨by simp, hb1⟩

set_option maxRecDepth 100000 in
theorem balanceGrows_lifted (os : Os) (started : os.Started) (H : Type) (enc : TypeId × Value → H) :
    ReturnsInHanded {} Try.checked os 3 .any (Rows.balanceGrowsSpec.pre6 enc Try.prog Try.f3 Rows.balanceGrowsRow.domain false) (Rows.balanceGrowsSpec.post enc Try.prog Try.f3 false true false false) := by
  refine returnsInHanded_of_change (C := Try.checked) own started (by kernel_rfl) Try.func3
    (ChangeSpec.witness6 (enc := enc) (C := Try.checked) false ⟨#[], #[.int .i64 0], []⟩ 8 (by kernel_rfl) (by kernel_rfl) (by kernel_rfl) (by kernel_rfl)) ?_
  intro W base args ds gs before hval0 hW hcnd _
  have hval : ∀ (j : Nat) t v, Try.f3.params[j]? = some t → args[j]? = some v → Value.okWide Try.prog W .any base t v := hval0
  have hW' := hW
  obtain ⟨p, q, hA0, hV, rfl, hfz, hnd⟩ := hW
  have hA : DataW.TrodAll enc Try.prog W 0 (fun _ => true) true Try.f3.params.toList args.toList ds p := hA0
  rw [Try.params3] at hA hval
  obtain ⟨v0, vs0, d0, ds0, p0, q0, hargs, rfl, rfl, h0, r0⟩ := trodAll_cons hA
  obtain ⟨rfl, rfl, rfl⟩ := trodAll_nil r0
  obtain rfl : args = #[v0] := by cases args; simp_all
  obtain ⟨rfl, rfl⟩ := trodVars_none hV
  obtain ⟨a0, rfl, rfl, rfl, w0⟩ := open_int Try.underlying3 (hval 0 3 v0 rfl rfl) h0
  clear hA0 hval0
  refine (balanceGrows_walk a0 w0 W).mono fun e W' ⟨he, hb⟩ => ⟨_, he, ?_⟩
  exact law_post laidOut (s := Rows.balanceGrowsSpec) (B := 4) rfl rfl Try.underlying4 (by decide +kernel) hW' rfl hb

theorem balanceGrows_holds : Rows.BalanceGrowsSaid :=
  OpenClaim.holds_of_wide 3 Try.f3 rfl rfl rfl rfl rfl rfl rfl ⟨rfl, rfl, rfl, rfl, rfl⟩ rfl rfl rfl rfl rfl (by kernel_rfl) Try.func3 (by kernel_rfl)
    (of_decide_eq_true (by kernel_rfl)) (by unfold Func.isWrapper; first | (rw [if_pos (by decide +kernel)]; kernel_rfl) | (rw [if_neg (by decide +kernel)]; exact ⟨rfl, rfl⟩))
    (fun os started H enc _ => balanceGrows_lifted os started H enc)

end Go.Proofs.Ytifimhfdapkpoaa
