/- OomRare: the plain law. Written by gen_lor.py. No statement is proved here. -/
import Derived.Test.YtmbpjafiinfkkaaGreatDoorOW6
namespace Go.Proofs.YtmbpjafiinfkkaaGreatDoor
set_option linter.unusedSimpArgs false
set_option linter.unusedVariables false
open Go.RowKit Go.Maps

/-- A tally with more slots and frames. -/
def moreT (t : TL) (a b : Int) : TL := { t with sl := t.sl + a, fr := t.fr + b }
theorem chk_of {t : TL} (h1 : 0 ≤ t.fr ∧ t.fr ≤ 256) (h2 : t.mn = 3) (h3 : t.lw = 6) (h4 : t.hi = 9) (h5 : 0 ≤ t.ob ∧ t.ob ≤ 2) (h6 : 0 ≤ t.ac ∧ t.ac ≤ 2) (h7 : 0 ≤ t.ina ∧ t.ina ≤ 2) (h8 : t.tg = 2) (h9 : 0 ≤ t.wr ∧ t.wr ≤ 2) (h10 : t.cp = 2) (h11 : 0 ≤ t.orp ∧ t.orp ≤ 1) (h12 : 0 ≤ t.rm ∧ t.rm ≤ 1) (h13 : 0 ≤ t.sl ∧ t.sl ≤ 256) (h14 : t.rf = true → 0 < t.ina) : chkT t = 0 := by
  unfold chkT
  rw [if_neg (by omega), if_neg (by omega), if_neg (by omega), if_neg (by omega), if_neg (fun h => by have := h14 h.1; omega)]
theorem TalOk.chk {t : TL} (h : TalOk t) : chkT t = 0 := by
  obtain ⟨h1, h2, h3, h4, h5, h6, h7, h8, h9, h10, h11, h12, h13, h14⟩ := h
  exact chk_of (by omega) h2 h3 h4 h5 h6 h7 h8 h9 h10 h11 h12 (by omega) h14
theorem TalOk.chk_more {t : TL} (h : TalOk t) {a b : Int} (ha : 0 ≤ a ∧ a < 5) (hb : 0 ≤ b ∧ b < 5) : chkT (moreT t a b) = 0 := by
  obtain ⟨h1, h2, h3, h4, h5, h6, h7, h8, h9, h10, h11, h12, h13, h14⟩ := h
  exact chk_of (by show 0 ≤ t.fr + b ∧ t.fr + b ≤ 256; omega) h2 h3 h4 h5 h6 h7 h8 h9 h10 h11 h12 (by show 0 ≤ t.sl + a ∧ t.sl + a ≤ 256; omega) h14
theorem tok_of {t : TL} (h : chkT t = 0) (hg : t.tg = 2) : TOk t := by
  unfold chkT at h
  by_cases h1 : t.fr < 0 ∨ 256 < t.fr ∨ t.ob < 0 ∨ 256 < t.ob ∨ t.ac < 0 ∨ 256 < t.ac ∨ t.ina < 0 ∨ 256 < t.ina ∨ t.tg < 0 ∨ 256 < t.tg ∨ t.sl < 0 ∨ 256 < t.sl
  · rw [if_pos h1] at h; simp at h
  rw [if_neg h1] at h
  by_cases h2 : t.mn < 0 ∨ t.lw ≤ t.mn ∨ t.hi ≤ t.lw ∨ 256 < t.hi
  · rw [if_pos h2] at h; simp at h
  rw [if_neg h2] at h
  by_cases h3 : t.cp < 1 ∨ 16 < t.cp ∨ t.wr < 0 ∨ t.cp < t.wr
  · rw [if_pos h3] at h; simp at h
  rw [if_neg h3] at h
  by_cases h4 : t.orp < 0 ∨ 32 < t.orp ∨ t.rm < 0 ∨ 32 < t.rm
  · rw [if_pos h4] at h; simp at h
  unfold TOk
  omega
theorem wrt_iff (t : TL) : wrtB t = false ↔ (t.ac = 0 ∧ t.ina = 0) ∨ t.wr = t.cp ∨ t.rm = 0 ∨ t.sl = 0 := by
  unfold wrtB hinN hinL
  rw [List.take_of_length_le (by simp)]
  by_cases a : t.ac = 0 <;> by_cases b : t.ina = 0 <;> by_cases c : t.wr = t.cp <;> by_cases d : t.rm = 0 <;> by_cases e : t.sl = 0 <;> simp [a, b, c, d, e]
theorem dir_iff (t : TL) : dirT t = 6 ↔ t.ob ≤ 0 ∧ wrtB t = false ∧ t.wr ≤ 0 ∧ t.orp ≤ 0 := by
  unfold dirT dirB
  by_cases a : 0 < t.ob
  · rw [decide_eq_true a, if_pos rfl]
    constructor
    · intro h; simp at h
    · intro h; omega
  · rw [decide_eq_false a, if_neg (by simp)]
    cases b : wrtB t
    · rw [if_neg (by simp)]
      by_cases c : 0 < t.wr
      · rw [decide_eq_true c, Bool.true_or, if_pos rfl]
        constructor
        · intro h; simp at h
        · intro h; omega
      · by_cases d : 0 < t.orp
        · rw [decide_eq_true d, Bool.or_true, if_pos rfl]
          constructor
          · intro h; simp at h
          · intro h; omega
        · rw [decide_eq_false c, decide_eq_false d, Bool.false_or, if_neg (by simp)]
          exact ⟨fun _ => ⟨by omega, rfl, by omega, by omega⟩, fun _ => rfl⟩
    · rw [if_pos rfl]
      constructor
      · intro h; simp at h
      · intro h; simp at h
theorem all_iff {t : TL} (h : chkT t = 0) : allB t = true ↔ t.ob ≤ 0 ∧ ((t.ac = 0 ∧ t.ina = 0) ∨ t.wr = t.cp ∨ t.rm = 0 ∨ t.sl = 0) ∧ t.wr ≤ 0 ∧ t.orp ≤ 0 ∧ t.fr ≤ t.mn := by
  unfold allB
  rw [if_pos h, Bool.and_eq_true, beq_iff_eq, dir_iff, wrt_iff, decide_eq_true_eq]
  exact ⟨fun ⟨⟨a, b, c, d⟩, e⟩ => ⟨a, b, c, d, e⟩, fun ⟨a, b, c, d, e⟩ => ⟨⟨a, b, c, d⟩, e⟩⟩
/-- More slots or free frames allow no kill that was not. -/
theorem rare_more {t : TL} (h : TalOk t) {a b : Int} (ha : 0 ≤ a ∧ a < 5) (hb : 0 ≤ b ∧ b < 5) (hw : allB (moreT t a b) = true) : allB t = true := by
  obtain ⟨h1, h2, h3, h4, h5⟩ := (all_iff (h.chk_more ha hb)).1 hw
  refine (all_iff h.chk).2 ⟨h1, ?_, h3, h4, ?_⟩
  · rcases h2 with h2 | h2 | h2 | h2
    · exact .inl h2
    · exact .inr (.inl h2)
    · exact .inr (.inr (.inl h2))
    · have h6 : t.sl + a = 0 := h2
      have := h.sl
      exact .inr (.inr (.inr (by omega)))
  · have h6 : t.fr + b ≤ t.mn := h5
    omega
theorem rare_is {t : TL} (h : TalOk t) (hw : allB t = true) : t.fr ≤ t.mn ∧ t.ob = 0 ∧ t.wr = 0 ∧ t.orp = 0 ∧ ((t.ac = 0 ∧ t.ina = 0) ∨ t.rm = 0 ∨ t.sl = 0) := by
  obtain ⟨h1, h2, h3, h4, h5⟩ := (all_iff h.chk).1 hw
  have := h.ob; have := h.wr; have := h.orp; have := h.cp
  refine ⟨h5, by omega, by omega, by omega, ?_⟩
  rcases h2 with h2 | h2 | h2 | h2
  · exact .inl h2
  · omega
  · exact .inr (.inl h2)
  · exact .inr (.inr h2)
theorem safe_mono {a b : Int} (h : safeB 128 20 87 a = true) (hb : b ≤ a) : safeB 128 20 87 b = true := by
  unfold safeB at *
  simp at *
  omega
theorem safe_ok {a : Int} (h0 : 0 ≤ a) (h1 : a ≤ 512) : safeE 0 a = 0 := by
  unfold safeE
  rw [if_pos rfl, if_neg (by omega)]
end Go.Proofs.YtmbpjafiinfkkaaGreatDoor
