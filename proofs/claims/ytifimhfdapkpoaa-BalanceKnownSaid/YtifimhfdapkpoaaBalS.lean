/- How many steps there are until nothing is to be moved: plain laws. -/
import Derived.Test.YtifimhfdapkpoaaBal3
namespace Go.Proofs.Ytifimhfdapkpoaa
open Go.RowKit Go.Maps

/-- How many frames are referenced. -/
def refs (rs : List Bool) : Nat := rs.count true
theorem refs_set_le (rs : List Bool) (k : Nat) : refs (rs.set k false) ≤ refs rs := by
  unfold refs
  induction rs generalizing k with
  | nil => simp
  | cons b t ih =>
    cases k with
    | zero => cases b <;> simp
    | succ k => have := ih k; cases b <;> simp [List.set_cons_succ] <;> omega
theorem refs_set_lt {rs : List Bool} {k : Nat} (h : rs[k]? = some true) : refs (rs.set k false) + 1 = refs rs := by
  unfold refs
  induction rs generalizing k with
  | nil => simp at h
  | cons b t ih =>
    cases k with
    | zero => simp at h; subst h; simp
    | succ k =>
      have := ih (k := k) (by simpa using h)
      cases b <;> simp [List.set_cons_succ] <;> omega
/-- What each step lowers. -/
def mu (xs ys : List Int) (rs : List Bool) : Nat := 2 * refs rs + ((tgt (xs.length + ys.length) - ys.length).toNat)
/-- The lists after what is done next. -/
def nextL (xs ys : List Int) (rs : List Bool) : LR := if whichS xs ys rs = 1 then demS xs ys rs else proS xs ys rs
/-- How many steps, at most k. -/
def stepsK : Nat → List Int → List Int → List Bool → Nat
  | 0, _, _, _ => 0
  | k + 1, xs, ys, rs => if whichS xs ys rs = 1 ∨ whichS xs ys rs = 2 then 1 + stepsK k (nextL xs ys rs).xs (nextL xs ys rs).ys (nextL xs ys rs).rs else 0
def stepsS (xs ys : List Int) (rs : List Bool) : Nat := stepsK (mu xs ys rs) xs ys rs

theorem which_cases (xs ys : List Int) (rs : List Bool) : (whichS xs ys rs = 1 ∧ 0 < xs.length ∧ (ys.length : Int) < tgt (xs.length + ys.length)) ∨ (whichS xs ys rs = 2 ∧ 0 < ys.length ∧ rs.getD (lastF ys).toNat false = true) ∨
    (whichS xs ys rs = 3 ∧ 0 < ys.length) ∨ (whichS xs ys rs = 0 ∧ ys.length = 0 ∧ ¬ (0 < xs.length ∧ (ys.length : Int) < tgt (xs.length + ys.length))) := by
  unfold whichS
  by_cases h1 : 0 < xs.length ∧ (ys.length : Int) < tgt (xs.length + ys.length)
  · rw [if_pos h1]; exact .inl ⟨rfl, h1⟩
  · rw [if_neg h1]
    by_cases h2 : 0 < ys.length
    · rw [if_pos h2]
      by_cases h3 : rs.getD (ys.getD (ys.length - 1) 0).toNat false = true
      · rw [if_pos h3]; exact .inr (.inl ⟨rfl, h2, h3⟩)
      · rw [if_neg h3]; exact .inr (.inr (.inl ⟨rfl, h2⟩))
    · rw [if_neg h2]; exact .inr (.inr (.inr ⟨rfl, by omega, h1⟩))

theorem next_dem {xs ys : List Int} {rs : List Bool} (hc : lruChk xs ys rs = 0) (h : whichS xs ys rs = 1) : nextL xs ys rs = ⟨dX xs ys, dY xs ys, rs.set (lastF xs).toNat false, 0⟩ ∧ demS xs ys rs = nextL xs ys rs ∧ 0 < xs.length := by
  rcases which_cases xs ys rs with ⟨_, h1, h2⟩ | ⟨e, _⟩ | ⟨e, _⟩ | ⟨e, _⟩
  · have : demS xs ys rs = ⟨dX xs ys, dY xs ys, rs.set (lastF xs).toNat false, 0⟩ := by unfold demS; rw [if_neg (by simpa using hc), if_neg (by omega)]
    refine ⟨by unfold nextL; rw [if_pos h, this], by unfold nextL; rw [if_pos h], h1⟩
  all_goals rw [h] at e; cases e
theorem next_pro {xs ys : List Int} {rs : List Bool} (hc : lruChk xs ys rs = 0) (h : whichS xs ys rs = 2) : nextL xs ys rs = ⟨pX xs ys, pY xs ys, rs.set (lastF ys).toNat false, 0⟩ ∧ proS xs ys rs = nextL xs ys rs ∧ 0 < ys.length ∧ rs.getD (lastF ys).toNat false = true := by
  rcases which_cases xs ys rs with ⟨e, _⟩ | ⟨_, h1, h2⟩ | ⟨e, _⟩ | ⟨e, _⟩
  · rw [h] at e; cases e
  · have : proS xs ys rs = ⟨pX xs ys, pY xs ys, rs.set (lastF ys).toNat false, 0⟩ := by unfold proS; rw [if_neg (by simpa using hc), if_neg (by omega)]
    exact ⟨by unfold nextL; rw [if_neg (by rw [h]; simp), this], by unfold nextL; rw [if_neg (by rw [h]; simp)], h1, h2⟩
  all_goals rw [h] at e; cases e
/-- What a step leaves. -/
structure Nx (xs ys : List Int) (rs : List Bool) (R : LR) : Prop where
  chk : lruChk R.xs R.ys R.rs = 0
  e : R.e = 0
  size : R.xs.length + R.ys.length = xs.length + ys.length
  rlen : R.rs.length = rs.length
  mu : mu R.xs R.ys R.rs + 1 ≤ mu xs ys rs
theorem next_ok {xs ys : List Int} {rs : List Bool} (hc : lruChk xs ys rs = 0) (h : whichS xs ys rs = 1 ∨ whichS xs ys rs = 2) : Nx xs ys rs (nextL xs ys rs) := by
  have hv := valid_of_chk hc
  rcases h with h | h
  · obtain ⟨e, _, hx⟩ := next_dem hc h
    have l1 : (dX xs ys).length = xs.length - 1 := by unfold dX; rw [List.length_eraseIdx_of_lt (by omega)]
    have l2 : (dY xs ys).length = ys.length + 1 := rfl
    rw [e]
    refine ⟨chk_dem hv hx _, rfl, by show (dX xs ys).length + (dY xs ys).length = _; omega, by simp, ?_⟩
    show mu (dX xs ys) (dY xs ys) (rs.set (lastF xs).toNat false) + 1 ≤ _
    unfold mu
    have := refs_set_le rs (lastF xs).toNat
    rcases which_cases xs ys rs with ⟨_, _, h2⟩ | ⟨e, _⟩ | ⟨e, _⟩ | ⟨e, _⟩
    · have e1 : ((dX xs ys).length : Int) + (dY xs ys).length = xs.length + ys.length := by omega
      rw [e1]; omega
    all_goals rw [h] at e; cases e
  · obtain ⟨e, _, hy, hb⟩ := next_pro hc h
    have l1 : (pY xs ys).length = ys.length - 1 := by unfold pY; rw [List.length_eraseIdx_of_lt (by omega)]
    have l2 : (pX xs ys).length = xs.length + 1 := rfl
    rw [e]
    refine ⟨chk_pro hv hy _, rfl, by show (pX xs ys).length + (pY xs ys).length = _; omega, by simp, ?_⟩
    show mu (pX xs ys) (pY xs ys) (rs.set (lastF ys).toNat false) + 1 ≤ _
    unfold mu
    have hb' : rs[(lastF ys).toNat]? = some true := by
      rw [List.getD_eq_getElem?_getD] at hb
      cases hx : rs[(lastF ys).toNat]? with
      | none => rw [hx] at hb; cases hb
      | some b => rw [hx] at hb; simp at hb; rw [hb]
    have := refs_set_lt hb'
    have e1 : ((pX xs ys).length : Int) + (pY xs ys).length = xs.length + ys.length := by omega
    rw [e1]; omega
theorem stepsK_eq : ∀ (k k' : Nat) (xs ys : List Int) (rs : List Bool), lruChk xs ys rs = 0 → mu xs ys rs ≤ k → mu xs ys rs ≤ k' → stepsK k xs ys rs = stepsK k' xs ys rs
  | 0, 0, _, _, _, _, _, _ => rfl
  | 0, k' + 1, xs, ys, rs, hc, h1, _ => by
    rw [stepsK, stepsK]
    by_cases h : whichS xs ys rs = 1 ∨ whichS xs ys rs = 2
    · have := (next_ok hc h).mu; omega
    · rw [if_neg h]
  | k + 1, 0, xs, ys, rs, hc, _, h2 => by
    rw [stepsK, stepsK]
    by_cases h : whichS xs ys rs = 1 ∨ whichS xs ys rs = 2
    · have := (next_ok hc h).mu; omega
    · rw [if_neg h]
  | k + 1, k' + 1, xs, ys, rs, hc, h1, h2 => by
    rw [stepsK, stepsK]
    by_cases h : whichS xs ys rs = 1 ∨ whichS xs ys rs = 2
    · have n := next_ok hc h
      have := n.mu
      rw [if_pos h, if_pos h, stepsK_eq k k' _ _ _ n.chk (by omega) (by omega)]
    · rw [if_neg h, if_neg h]
theorem steps_on {xs ys : List Int} {rs : List Bool} (hc : lruChk xs ys rs = 0) (h : whichS xs ys rs = 1 ∨ whichS xs ys rs = 2) : stepsS xs ys rs = 1 + stepsS (nextL xs ys rs).xs (nextL xs ys rs).ys (nextL xs ys rs).rs := by
  have n := next_ok hc h
  have := n.mu
  unfold stepsS
  obtain ⟨k, hk⟩ : ∃ k, mu xs ys rs = k + 1 := ⟨mu xs ys rs - 1, by omega⟩
  rw [hk, stepsK, if_pos h, stepsK_eq k _ _ _ _ n.chk (by omega) (Nat.le_refl _)]
theorem steps_end {xs ys : List Int} {rs : List Bool} (h : ¬ (whichS xs ys rs = 1 ∨ whichS xs ys rs = 2)) : stepsS xs ys rs = 0 := by
  unfold stepsS
  cases mu xs ys rs with
  | zero => rfl
  | succ k => rw [stepsK, if_neg h]
theorem stepsK_le : ∀ (k : Nat) (xs ys : List Int) (rs : List Bool), stepsK k xs ys rs ≤ k
  | 0, _, _, _ => Nat.le_refl _
  | k + 1, xs, ys, rs => by
    rw [stepsK]
    split
    · have := stepsK_le k (nextL xs ys rs).xs (nextL xs ys rs).ys (nextL xs ys rs).rs; omega
    · omega
theorem steps_le (xs ys : List Int) (rs : List Bool) : stepsS xs ys rs ≤ mu xs ys rs := stepsK_le _ _ _ _
theorem refs_le (rs : List Bool) : refs rs ≤ rs.length := List.count_le_length
theorem mu_le {xs ys : List Int} {rs : List Bool} (hv : Valid xs ys rs) : mu xs ys rs ≤ 3 * rs.length := by
  unfold mu
  have h1 := refs_le rs
  have h2 := hv.len
  have h3 := hv.hi
  have h4 := (tgt_bd (xs.length + ys.length) (by omega) (by omega)).2
  omega
end Go.Proofs.Ytifimhfdapkpoaa
