/- BalanceParts: the statement holds for every three numbers. -/
import Derived.Test.YtifimhfdapkpoaaBal3
import Derived.Test.YtifimhfdapkpoaaClose
namespace Go.Proofs.Ytifimhfdapkpoaa
open Go.RowKit Go.Maps
open Go.ChangeShapes Go.WideShapes Go.ChangeAt

/-- The plain law: a part and the rest. -/
theorem part_law (k m d : Int) (hk : 0 ≤ k) (hm : 0 ≤ m) (hd : 1 ≤ d) (hmd : m ≤ d) (a b : Int) (ha : a = (2 * k * m + d) / (2 * d)) (hb : b = (2 * k * (d - m) + d) / (2 * d)) :
    (a + b = k ∨ a + b = k + 1) ∧ 0 ≤ a ∧ a ≤ k ∧ 2 * a * d ≤ 2 * k * m + d ∧ 2 * k * m < 2 * a * d + d ∧ 0 ≤ b ∧ b ≤ k := by
  have x1 := Int.mul_ediv_add_emod (2 * k * m + d) (2 * d)
  have x2 := Int.emod_nonneg (2 * k * m + d) (show 2 * d ≠ 0 by omega)
  have x3 := Int.emod_lt_of_pos (2 * k * m + d) (show 0 < 2 * d by omega)
  have y1 := Int.mul_ediv_add_emod (2 * k * (d - m) + d) (2 * d)
  have y2 := Int.emod_nonneg (2 * k * (d - m) + d) (show 2 * d ≠ 0 by omega)
  have y3 := Int.emod_lt_of_pos (2 * k * (d - m) + d) (show 0 < 2 * d by omega)
  rw [← ha] at x1
  rw [← hb] at y1
  generalize (2 * k * m + d) % (2 * d) = r at *
  generalize (2 * k * (d - m) + d) % (2 * d) = s at *
  have e1 : 2 * k * (d - m) = 2 * (k * d) - 2 * (k * m) := by rw [Int.mul_assoc, Int.mul_sub]; omega
  have e2 : 2 * k * m = 2 * (k * m) := Int.mul_assoc _ _ _
  have e3 : 2 * d * a = 2 * (d * a) := Int.mul_assoc _ _ _
  have e4 : 2 * d * b = 2 * (d * b) := Int.mul_assoc _ _ _
  have e5 : 2 * a * d = 2 * (d * a) := by rw [Int.mul_assoc, Int.mul_comm a d]
  have p1 : 0 ≤ k * m := Int.mul_nonneg hk hm
  have p2 : 0 ≤ k * (d - m) := Int.mul_nonneg hk (by omega)
  have p3 : k * (d - m) = k * d - k * m := Int.mul_sub _ _ _
  rw [e1] at y1
  rw [e2, e5]
  rw [e2] at x1
  rw [e3] at x1
  rw [e4] at y1
  have q1 : d * (a + b - k - 1) = d * a + d * b - k * d - d := by
    rw [Int.mul_sub, Int.mul_sub, Int.mul_add, Int.mul_comm d k]; omega
  have q2 : 2 * (d * (a + b - k - 1)) = -(r + s) := by omega
  have q3 : a + b - k - 1 = 0 ∨ a + b - k - 1 = -1 := by
    generalize a + b - k - 1 = u at *
    rcases (by omega : u ≤ -2 ∨ u = -1 ∨ u = 0 ∨ 1 ≤ u) with h | h | h | h
    · have : d * u ≤ d * (-2) := Int.mul_le_mul_of_nonneg_left h (by omega)
      omega
    · exact .inr h
    · exact .inl h
    · have : d * 1 ≤ d * u := Int.mul_le_mul_of_nonneg_left h (by omega)
      omega
  have g1 : 0 ≤ a := by
    rcases (by omega : a ≤ -1 ∨ 0 ≤ a) with h | h
    · have : d * a ≤ d * (-1) := Int.mul_le_mul_of_nonneg_left h (by omega)
      omega
    · exact h
  have g2 : 0 ≤ b := by
    rcases (by omega : b ≤ -1 ∨ 0 ≤ b) with h | h
    · have : d * b ≤ d * (-1) := Int.mul_le_mul_of_nonneg_left h (by omega)
      omega
    · exact h
  have g3 : a ≤ k := by
    rcases (by omega : k + 1 ≤ a ∨ a ≤ k) with h | h
    · have : d * (k + 1) ≤ d * a := Int.mul_le_mul_of_nonneg_left h (by omega)
      rw [Int.mul_add, Int.mul_comm d k] at this
      omega
    · exact h
  have g4 : b ≤ k := by
    rcases (by omega : k + 1 ≤ b ∨ b ≤ k) with h | h
    · have : d * (k + 1) ≤ d * b := Int.mul_le_mul_of_nonneg_left h (by omega)
      rw [Int.mul_add, Int.mul_comm d k] at this
      omega
    · exact h
  omega

set_option maxHeartbeats 1000000 in
theorem balanceParts_walk (n num den : Int) (_h0 : (Lit.int .i64 n).wf = true) (_h1 : (Lit.int .i64 num).wf = true) (_h2 : (Lit.int .i64 den).wf = true) (w : World) :
    Calls Try.prog 4 #[.int .i64 n, .int .i64 num, .int .i64 den] w fun e w' => e = .returned (.bool true) ∧ Below w.heap.size w w' := by
  obtain ⟨k, hk⟩ : ∃ k, k = n % 257 := ⟨_, rfl⟩
  obtain ⟨d0, hd0⟩ : ∃ d, d = den % 1000 := ⟨_, rfl⟩
  obtain ⟨d, hd⟩ : ∃ d, d = 1 + d0 := ⟨_, rfl⟩
  obtain ⟨m, hm⟩ : ∃ m, m = num % (d + 1) := ⟨_, rfl⟩
  have k0 : 0 ≤ k := by omega
  have k1 : k ≤ 256 := by omega
  have dd0 : 0 ≤ d0 := by omega
  have dd1 : d0 ≤ 999 := by omega
  have d1 : 1 ≤ d := by omega
  have d2 : d ≤ 1000 := by omega
  have m0 : 0 ≤ m := by rw [hm]; exact Int.emod_nonneg _ (by omega)
  have m1 : m ≤ d := by have := Int.emod_lt_of_pos num (show 0 < d + 1 by omega); omega
  obtain ⟨a, ha⟩ : ∃ a, a = (2 * k * m + d) / (2 * d) := ⟨_, rfl⟩
  obtain ⟨b, hb⟩ : ∃ b, b = (2 * k * (d - m) + d) / (2 * d) := ⟨_, rfl⟩
  obtain ⟨c1, c2, c3, c4, c5, c6, c7⟩ := part_law k m d k0 m0 d1 m1 a b ha hb
  have HK := Lib.hid hk; have HD := Lib.hid hd; have HD0 := Lib.hid hd0; have HM := Lib.hid hm; have HA := Lib.hid ha; have HB := Lib.hid hb
  clear hk hd hd0 hm ha hb
  have b1 : 2 * a * d ≤ 512 * 1000 := Int.mul_le_mul (by omega) (by omega) (by omega) (by omega)
  have b2 : 0 ≤ 2 * a * d := Int.mul_nonneg (by omega) (by omega)
  have b3 : 2 * k * m ≤ 512 * 1000 := Int.mul_le_mul (by omega) (by omega) (by omega) (by omega)
  have b4 : 0 ≤ 2 * k * m := Int.mul_nonneg (by omega) (by omega)
  have run : ∀ (_ : True), Calls Try.prog 4 #[.int .i64 n, .int .i64 num, .int .i64 den] w fun e w' => e = .returned (.bool true) ∧ Below w.heap.size w w' := by
    intro _
    rcases c1 with c1 | c1
    all_goals
      go_enter Try.func4, Try.ntmps4
      go_wp2_with fail
      refine (Mod_any _ _ _ (by omega) (by omega)).mono ?_
      rw [← HK.out]
      rintro e w' ⟨rfl, rfl⟩
      go_wp2_with fail
      refine (Mod_any _ _ _ (by omega) (by omega)).mono ?_
      rw [← HD0.out]
      rintro e w' ⟨rfl, rfl⟩
      go_wp2_with fail
      rw [← HD.out]
      refine (Mod_any _ _ _ (by omega) (by omega)).mono ?_
      rw [← HM.out]
      rintro e w' ⟨rfl, rfl⟩
      go_wp2_with fail
      refine (Part_any _ _ _ _).mono ?_
      rw [partR, if_pos (by omega), ← HA.out]
      rintro e w' ⟨rfl, rfl⟩
      go_wp2_with fail
      refine (Part_any _ _ _ _).mono ?_
      rw [partR, if_pos (by omega), ← HB.out]
      rintro e w' ⟨rfl, rfl⟩
      go_wp2_with fail
      refine (awake_any _).mono ?_
      rintro e w' ⟨rfl, hb1⟩
      go_wp2
      go_ret
      exact ⟨by simp, hb1⟩
  exact run trivial

set_option maxRecDepth 100000 in
theorem balanceParts_lifted (os : Os) (started : os.Started) (H : Type) (enc : TypeId × Value → H) :
    ReturnsInHanded {} Try.checked os 4 .any (Rows.balancePartsSpec.pre6 enc Try.prog Try.f4 Rows.balancePartsRow.domain false) (Rows.balancePartsSpec.post enc Try.prog Try.f4 false true false false) := by
  refine returnsInHanded_of_change (C := Try.checked) own started (by kernel_rfl) Try.func4
    (ChangeSpec.witness6 (enc := enc) (C := Try.checked) false ⟨#[], #[.int .i64 0, .int .i64 0, .int .i64 0], []⟩ 8 (by kernel_rfl) (by kernel_rfl) (by kernel_rfl) (by kernel_rfl)) ?_
  intro W base args ds gs before hval0 hW hcnd _
  have hval : ∀ (j : Nat) t v, Try.f4.params[j]? = some t → args[j]? = some v → Value.okWide Try.prog W .any base t v := hval0
  have hW' := hW
  obtain ⟨p, q, hA0, hV, rfl, hfz, hnd⟩ := hW
  have hA : DataW.TrodAll enc Try.prog W 0 (fun _ => true) true Try.f4.params.toList args.toList ds p := hA0
  rw [Try.params4] at hA hval
  obtain ⟨v0, vs0, d0, ds0, p0, q0, hargs, rfl, rfl, h0, r0⟩ := trodAll_cons hA
  obtain ⟨v1, vs1, d1, ds1, p1, q1, rfl, rfl, rfl, h1, r1⟩ := trodAll_cons r0
  obtain ⟨v2, vs2, d2, ds2, p2, q2, rfl, rfl, rfl, h2, r2⟩ := trodAll_cons r1
  obtain ⟨rfl, rfl, rfl⟩ := trodAll_nil r2
  obtain rfl : args = #[v0, v1, v2] := by cases args; simp_all
  obtain ⟨rfl, rfl⟩ := trodVars_none hV
  obtain ⟨a0, rfl, rfl, rfl, w0⟩ := open_int Try.underlying3 (hval 0 3 v0 rfl rfl) h0
  obtain ⟨a1, rfl, rfl, rfl, w1⟩ := open_int Try.underlying3 (hval 1 3 v1 rfl rfl) h1
  obtain ⟨a2, rfl, rfl, rfl, w2⟩ := open_int Try.underlying3 (hval 2 3 v2 rfl rfl) h2
  clear hA0 hval0
  refine (balanceParts_walk a0 a1 a2 w0 w1 w2 W).mono fun e W' ⟨he, hb⟩ => ⟨_, he, ?_⟩
  exact law_post laidOut (s := Rows.balancePartsSpec) (B := 4) rfl rfl Try.underlying4 (by decide +kernel) hW' rfl hb

theorem balanceParts_holds : Rows.BalancePartsSaid :=
  OpenClaim.holds_of_wide 4 Try.f4 rfl rfl rfl rfl rfl rfl rfl ⟨rfl, rfl, rfl, rfl, rfl⟩ rfl rfl rfl rfl rfl (by kernel_rfl) Try.func4 (by kernel_rfl)
    (of_decide_eq_true (by kernel_rfl)) (by unfold Func.isWrapper; first | (rw [if_pos (by decide +kernel)]; kernel_rfl) | (rw [if_neg (by decide +kernel)]; exact ⟨rfl, rfl⟩))
    (fun os started H enc _ => balanceParts_lifted os started H enc)

end Go.Proofs.Ytifimhfdapkpoaa
