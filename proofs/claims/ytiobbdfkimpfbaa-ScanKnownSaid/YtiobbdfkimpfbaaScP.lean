/- The steps of a sweep in plain Lean: which come, and that they come to an end. -/
import Derived.Test.YtiobbdfkimpfbaaScJ
namespace Go.Proofs.Ytiobbdfkimpfbaa
open Go.RowKit Go.Maps

/-- A step of a sweep: what it was, its frame, the lists behind it (without a victim). -/
def nxtS (T : Int) (xs ys : List Int) (rs : List Bool) : Int × Int × List Int × List Int × List Bool :=
  if 0 < xs.length ∧ (ys.length : Int) < T then (1, lastF xs, dX xs ys, dY xs ys, rs.set (lastF xs).toNat false)
  else if ys.length = 0 then (0, -1, xs, ys, rs)
  else if lastB ys rs = true then (2, lastF ys, pX xs ys, pY xs ys, rs.set (lastF ys).toNat false)
  else (3, lastF ys, wo (lastF ys) xs, wo (lastF ys) ys, rs.set (lastF ys).toNat false)
/-- How many steps there are at most. -/
def refC (rs : List Bool) (ys : List Int) : Nat := ys.countP (fun y => rs.getD y.toNat false)
def phi (xs ys : List Int) (rs : List Bool) : Nat := 2 * xs.length + ys.length + 2 * refC rs ys

theorem refC_set {rs : List Bool} {ys : List Int} {f : Int} (h0 : 0 ≤ f) (hy : ∀ y ∈ ys, 0 ≤ y) (hf : f ∉ ys) : refC (rs.set f.toNat false) ys = refC rs ys := by
  unfold refC
  refine List.countP_congr fun y h => ?_
  have : y.toNat ≠ f.toNat := fun e => hf (by have := hy y h; rw [show f = y by omega]; exact h)
  simp only [List.getD_eq_getElem?_getD, List.getElem?_set, if_neg (Ne.symm this)]
theorem refC_cons_set (rs : List Bool) (f : Int) (ys : List Int) : refC (rs.set f.toNat false) (f :: ys) = refC (rs.set f.toNat false) ys := by
  unfold refC
  rw [List.countP_cons]
  simp [List.getD_eq_getElem?_getD, List.getElem?_set]
  split <;> simp
theorem refC_last {ys : List Int} {rs : List Bool} (h : 0 < ys.length) : refC rs ys = refC rs (ys.eraseIdx (ys.length - 1)) + if lastB ys rs = true then 1 else 0 := by
  have e := erase_last h
  conv => lhs; rw [← e]
  unfold refC
  rw [List.countP_append]
  congr 1
  unfold lastB lastF
  simp [List.countP_cons]
theorem lastF_notin {ys : List Int} (hn : ys.Nodup) (h : 0 < ys.length) : lastF ys ∉ ys.eraseIdx (ys.length - 1) := by
  rw [← wo_lastF hn h]
  intro hm
  exact (wo_mem hm).2 rfl
theorem wo_of_notin {f : Int} {xs : List Int} (h : f ∉ xs) : wo f xs = xs := wo_self h

structure NxtOk (R : Int × Int × List Int × List Int × List Bool) (xs ys : List Int) (rs : List Bool) : Prop where
  chk : lruChk R.2.2.1 R.2.2.2.1 R.2.2.2.2 = 0
  low : R.1 ≠ 0 → phi R.2.2.1 R.2.2.2.1 R.2.2.2.2 < phi xs ys rs
  same : R.1 = 0 → R.2.2 = (xs, ys, rs) ∧ R.2.1 = -1
  lo : 0 ≤ R.1
  hi : R.1 ≤ 3
  fr : R.1 ≠ 0 → 0 ≤ R.2.1 ∧ R.2.1 < 256
theorem nxt_ok {T : Int} {xs ys : List Int} {rs : List Bool} (hc : lruChk xs ys rs = 0) : NxtOk (nxtS T xs ys rs) xs ys rs := by
  have hv := valid_of_chk hc
  have hnd := List.nodup_append.1 hv.nodup
  have hhi := hv.hi
  unfold nxtS
  by_cases h0 : 0 < xs.length ∧ (ys.length : Int) < T
  · rw [if_pos h0]
    have hm := lastF_mem h0.1
    have hr := hv.range (lastF xs) (by simp [hm])
    have hny : lastF xs ∉ ys := fun hy => hnd.2.2 _ hm _ hy rfl
    refine ⟨chk_dem hv h0.1 _, fun _ => ?_, fun h => absurd h (by show ¬ _ = _; dsimp only; omega), by dsimp only; omega, by dsimp only; omega, fun _ => ⟨hr.1, by dsimp only; omega⟩⟩
    have hp := h0.1
    show phi (dX xs ys) (lastF xs :: ys) _ < _
    unfold phi dX
    rw [refC_cons_set, refC_set hr.1 (fun y hy => (hv.range y (by simp [hy])).1) hny, List.length_eraseIdx, if_pos (by omega), List.length_cons]
    omega
  · rw [if_neg h0]
    by_cases h1 : ys.length = 0
    · rw [if_pos h1]
      exact ⟨hc, fun h => absurd rfl h, fun _ => ⟨rfl, rfl⟩, Int.le_refl _, by dsimp only; omega, fun h => absurd rfl h⟩
    · rw [if_neg h1]
      have hp : 0 < ys.length := by omega
      have hm := lastF_mem hp
      have hr := hv.range (lastF ys) (by simp [hm])
      have hnx : lastF ys ∉ xs := fun hx => hnd.2.2 _ hx _ hm rfl
      have hsub : ∀ y ∈ ys.eraseIdx (ys.length - 1), 0 ≤ y := fun y hy => (hv.range y (by simp [List.mem_of_mem_eraseIdx hy])).1
      have hrl := refC_last (rs := rs) hp
      have hset : refC (rs.set (lastF ys).toNat false) (ys.eraseIdx (ys.length - 1)) = refC rs (ys.eraseIdx (ys.length - 1)) := refC_set hr.1 hsub (lastF_notin hnd.2.1 hp)
      have hlen : (ys.eraseIdx (ys.length - 1)).length = ys.length - 1 := by rw [List.length_eraseIdx, if_pos (by omega)]
      by_cases h2 : lastB ys rs = true
      · rw [if_pos h2]
        rw [if_pos h2] at hrl
        refine ⟨chk_pro hv hp _, fun _ => ?_, fun h => absurd h (by show ¬ _ = _; dsimp only; omega), by dsimp only; omega, by dsimp only; omega, fun _ => ⟨hr.1, by dsimp only; omega⟩⟩
        show phi (lastF ys :: xs) (ys.eraseIdx (ys.length - 1)) _ < _
        unfold phi
        rw [hset, hlen, List.length_cons]
        omega
      · rw [if_neg h2]
        rw [if_neg h2] at hrl
        refine ⟨chk_rem hv hr.1, fun _ => ?_, fun h => absurd h (by show ¬ _ = _; dsimp only; omega), by dsimp only; omega, by dsimp only; omega, fun _ => ⟨hr.1, by dsimp only; omega⟩⟩
        show phi (wo (lastF ys) xs) (wo (lastF ys) ys) _ < _
        rw [wo_self hnx, wo_lastF hnd.2.1 hp]
        unfold phi
        rw [hset, hlen]
        omega

/-- An event of a sweep. -/
structure EvP where
  what : Int
  f : Int
  xs : List Int
  ys : List Int
  rs : List Bool
  mv : List Int
def evs (T : Int) : Nat → List Int → List Int → List Bool → List Int → List EvP
  | 0, _, _, _, _ => []
  | n + 1, xs, ys, rs, mv => if (nxtS T xs ys rs).1 = 0 then [⟨0, -1, xs, ys, rs, mv⟩] else
      ⟨(nxtS T xs ys rs).1, (nxtS T xs ys rs).2.1, (nxtS T xs ys rs).2.2.1, (nxtS T xs ys rs).2.2.2.1, (nxtS T xs ys rs).2.2.2.2, mvS (nxtS T xs ys rs).1 (nxtS T xs ys rs).2.1 mv⟩ ::
        evs T n (nxtS T xs ys rs).2.2.1 (nxtS T xs ys rs).2.2.2.1 (nxtS T xs ys rs).2.2.2.2 (mvS (nxtS T xs ys rs).1 (nxtS T xs ys rs).2.1 mv)
theorem evs_fuel (T : Int) : ∀ (n m : Nat) (xs ys : List Int) (rs : List Bool) (mv : List Int), lruChk xs ys rs = 0 → phi xs ys rs < n → phi xs ys rs < m → evs T n xs ys rs mv = evs T m xs ys rs mv
  | 0, _, _, _, _, _, _, h, _ => absurd h (by omega)
  | _ + 1, 0, _, _, _, _, _, _, h => absurd h (by omega)
  | n + 1, m + 1, xs, ys, rs, mv, hc, hn, hm => by
    have ok := nxt_ok (T := T) hc
    unfold evs
    split
    · rfl
    · rename_i h
      have := ok.low h
      rw [evs_fuel T n m _ _ _ _ ok.chk (by omega) (by omega)]
/-- All events of a sweep. -/
def full (T : Int) (xs ys : List Int) (rs : List Bool) (mv : List Int) : List EvP := evs T (phi xs ys rs + 1) xs ys rs mv
theorem full_eq {T : Int} {xs ys : List Int} {rs : List Bool} (mv : List Int) (hc : lruChk xs ys rs = 0) : full T xs ys rs mv = if (nxtS T xs ys rs).1 = 0 then [⟨0, -1, xs, ys, rs, mv⟩] else
      ⟨(nxtS T xs ys rs).1, (nxtS T xs ys rs).2.1, (nxtS T xs ys rs).2.2.1, (nxtS T xs ys rs).2.2.2.1, (nxtS T xs ys rs).2.2.2.2, mvS (nxtS T xs ys rs).1 (nxtS T xs ys rs).2.1 mv⟩ ::
        full T (nxtS T xs ys rs).2.2.1 (nxtS T xs ys rs).2.2.2.1 (nxtS T xs ys rs).2.2.2.2 (mvS (nxtS T xs ys rs).1 (nxtS T xs ys rs).2.1 mv) := by
  have ok := nxt_ok (T := T) hc
  unfold full
  conv => lhs; unfold evs
  split
  · rfl
  · rename_i h
    have := ok.low h
    rw [evs_fuel T (phi xs ys rs) (phi (nxtS T xs ys rs).2.2.1 (nxtS T xs ys rs).2.2.2.1 (nxtS T xs ys rs).2.2.2.2 + 1) _ _ _ _ ok.chk (by omega) (by omega)]
/-- A step and a sweep's step. -/
theorem nxt_step (T : Int) (xs ys : List Int) (rs : List Bool) : nxtS T xs ys rs = if (stepS T xs ys rs).1 = 3 then (3, (stepS T xs ys rs).2.1, wo (stepS T xs ys rs).2.1 (stepS T xs ys rs).2.2.1, wo (stepS T xs ys rs).2.1 (stepS T xs ys rs).2.2.2.1, (stepS T xs ys rs).2.2.2.2.set (stepS T xs ys rs).2.1.toNat false) else stepS T xs ys rs := by
  unfold nxtS stepS
  by_cases h0 : 0 < xs.length ∧ (ys.length : Int) < T
  · rw [if_pos h0, if_pos h0, if_neg (by simp)]
  · rw [if_neg h0, if_neg h0]
    by_cases h1 : ys.length = 0
    · rw [if_pos h1, if_pos h1, if_neg (by simp)]
    · rw [if_neg h1, if_neg h1]
      by_cases h2 : lastB ys rs = true
      · rw [if_pos h2, if_pos h2, if_neg (by simp)]
      · rw [if_neg h2, if_neg h2, if_pos rfl]
end Go.Proofs.Ytiobbdfkimpfbaa
