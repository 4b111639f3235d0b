/- ReadinFrames in plain Lean: the accesses that are reached, which frames they have, and what an event makes of that. -/
import Derived.Test.YtngenoblifhnpaaDoorRiA
import Derived.Test.YtngenoblifhnpaaDoorRiR5
namespace Go.Proofs.YtngenoblifhnpaaDoor
open Go.RowKit Go.Maps

/-- A frame of the machine. -/
def frI (x : Int) : Prop := 0 ≤ x ∧ x < 256
/-- An access that is reached. -/
def InF (r : RI) : Prop :=
  (r.1 = 1 ∧ r.2.1 = -1 ∧ (r.2.2 = -1 ∨ frI r.2.2)) ∨ (r.1 = 2 ∧ frI r.2.1 ∧ r.2.2 = -1) ∨ (r.1 = 3 ∧ frI r.2.1 ∧ r.2.2 = -1) ∨ (r.1 = 4 ∧ r.2.1 = -1 ∧ frI r.2.2) ∨ (r.1 = 5 ∧ frI r.2.1 ∧ r.2.2 = -1) ∨
    (r.1 = 6 ∧ frI r.2.1 ∧ r.2.2 = -1) ∨ (r.1 = 7 ∧ r.2.1 = -1 ∧ (r.2.2 = -1 ∨ frI r.2.2)) ∨ (r.1 = 8 ∧ r.2.1 = -1 ∧ r.2.2 = -1)
/-- How many events are left at most. -/
def rkF (r : RI) : Nat := if r.1 = 1 then (if r.2.2 = -1 then 4 else 5) else if r.1 = 2 then 3 else if r.1 = 3 ∨ r.1 = 4 then 2 else if r.1 = 6 then 1 else if r.1 = 7 then (if r.2.2 = -1 then 0 else 1) else 0
def oneI (a b : Int) : Int := if a = b then 1 else 0
/-- How often an access has a frame. -/
def hasF (r : RI) (k : Int) : Int := oneI k r.2.1 + oneI k r.2.2
/-- How often a frame was freed. -/
def frdF : List Int → Int → Int
  | [], _ => 0
  | x :: t, k => oneI k x + frdF t k
theorem chk_6 {f : Int} (h : frI f) : chkR (6, f, -1) = 0 := by have h0 := h.1; simp [chkR, frOk_in h.1 h.2, goodR, show f ≠ -1 by omega]; decide
theorem chk_7 : chkR (7, -1, -1) = 0 := by decide
theorem chk_7w {g : Int} (h : frI g) : chkR (7, -1, g) = 0 := by have h0 := h.1; simp [chkR, frOk_in h.1 h.2, goodR]; decide
theorem chk_8 : chkR (8, -1, -1) = 0 := by decide
theorem chkF {r : RI} (h : InF r) : chkR r = 0 := by
  obtain ⟨s, f, g⟩ := r
  simp only [InF] at h
  rcases h with ⟨rfl, rfl, rfl | h⟩ | ⟨rfl, h, rfl⟩ | ⟨rfl, h, rfl⟩ | ⟨rfl, rfl, h⟩ | ⟨rfl, h, rfl⟩ | ⟨rfl, h, rfl⟩ | ⟨rfl, rfl, rfl | h⟩ | ⟨rfl, rfl, rfl⟩
  · exact chk_1
  · exact chk_1w h.1 h.2
  · exact chk_2 h.1 h.2
  · exact chk_3 h.1 h.2
  · exact chk_4 h.1 h.2
  · exact chk_5 h.1 h.2
  · exact chk_6 h
  · exact chk_7
  · exact chk_7w h
  · exact chk_8
theorem pck_mem {r : RI} (n : Int) (h : evsR r ≠ []) : ∃ e ∈ evsR r, pckR r n true = if e = 1 then (1, n % 1048576 / 8 % 256, true) else (e, -1, true) := by
  have hl : pckL r true = evsR r := by unfold pckL; rw [if_neg (by simp)]
  have hp : 0 < (evsR r).length := List.length_pos_iff.2 h
  obtain ⟨j, hj⟩ : ∃ j : Nat, n % 1048576 % ((evsR r).length : Int) = j := ⟨(n % 1048576 % ((evsR r).length : Int)).toNat, by have := Int.emod_nonneg (n % 1048576) (show ((evsR r).length : Int) ≠ 0 by omega); omega⟩
  have hjl : j < (evsR r).length := by have := Int.emod_lt_of_pos (n % 1048576) (show 0 < ((evsR r).length : Int) by omega); omega
  refine ⟨(evsR r)[j], List.getElem_mem hjl, ?_⟩
  unfold pckR
  rw [hl, if_neg h, hj, Int.toNat_natCast, List.getD_eq_getElem?_getD, List.getElem?_eq_getElem hjl]
  try simp only [Option.getD_some]
  try (split <;> simp_all)
theorem evs_6 (f : Int) : evsR (6, f, -1) = [5] := by simp [evsR, canR]
theorem evs_7 : evsR (7, -1, -1) = [] := by decide
theorem evs_7w {g : Int} (h : g ≠ -1) : evsR (7, -1, g) = [4] := by simp [evsR, canR, h]
theorem evs_8 : evsR (8, -1, -1) = [] := by decide
theorem stp_k1 : stpR (1, -1, -1) 6 (-1) = ((7, -1, -1), [], -1, 0) := by decide
theorem stp_k1w {g : Int} (h : frI g) : stpR (1, -1, g) 6 (-1) = ((7, -1, g), [], -1, 0) := by simp [stpR, chk_1w h.1 h.2, canR, aftR, thereF]
theorem stp_k2 {f : Int} (h : frI f) : stpR (2, f, -1) 6 (-1) = ((7, -1, -1), [f], -1, 0) := by have := h.1; simp [stpR, chk_2 h.1 h.2, canR, aftR, thereF, show f ≠ -1 by omega]
theorem stp_k3 {f : Int} (h : frI f) : stpR (3, f, -1) 6 (-1) = ((6, f, -1), [], -1, 0) := by simp [stpR, chk_3 h.1 h.2, canR, aftR]
theorem stp_k4 {g : Int} (h : frI g) : stpR (4, -1, g) 6 (-1) = ((7, -1, g), [], -1, 0) := by have := h.1; simp [stpR, chk_4 h.1 h.2, canR, aftR, thereF, show g ≠ -1 by omega]
theorem stp_r6 {f : Int} (h : frI f) : stpR (6, f, -1) 5 (-1) = ((8, -1, -1), [f], -1, 0) := by have := h.1; simp [stpR, chk_6 h, canR, aftR, thereF, show f ≠ -1 by omega]
theorem stp_w7 {g : Int} (h : frI g) : stpR (7, -1, g) 4 (-1) = ((7, -1, -1), [g], -1, 0) := by have := h.1; simp [stpR, chk_7w h, canR, aftR, thereF, show g ≠ -1 by omega]
/-- What the law asks of an event that is picked. -/
def StepF (r : RI) (n : Int) : Prop :=
  ∃ ev fr t fl mp, pckR r n true = (ev, fr, true) ∧ stpR r ev fr = (t, fl, mp, 0) ∧ (fl = [] ∨ ∃ x, fl = [x] ∧ frI x) ∧ (ev = 1 → frI fr) ∧ (mp < 0 ∨ mp = t.2.1) ∧ InF t ∧ rkF t < rkF r ∧
    ∀ k : Int, 0 ≤ k → hasF r k + (if ev = 1 then oneI k fr else 0) - frdF fl k = hasF t k
theorem one_no {k : Int} (h : 0 ≤ k) : oneI k (-1) = 0 := by unfold oneI; rw [if_neg (by omega)]
theorem stepF {r : RI} (h : InF r) (n : Int) : (pckR r n true = (0, 0, false) ∧ evsR r = []) ∨ StepF r n := by
  obtain ⟨s, f, g⟩ := r
  have none_ : ∀ r : RI, evsR r = [] → pckR r n true = (0, 0, false) := fun r hr => by unfold pckR pckL; rw [hr]; simp
  simp only [InF] at h
  rcases h with ⟨rfl, rfl, rfl | h⟩ | ⟨rfl, h, rfl⟩ | ⟨rfl, h, rfl⟩ | ⟨rfl, rfl, h⟩ | ⟨rfl, h, rfl⟩ | ⟨rfl, h, rfl⟩ | ⟨rfl, rfl, rfl | h⟩ | ⟨rfl, rfl, rfl⟩
  · right
    obtain ⟨e, he, hp⟩ := pck_mem (r := (1, -1, -1)) n (by rw [evs_1]; simp)
    rw [evs_1] at he
    rcases (by simpa using he : e = 1 ∨ e = 6) with rfl | rfl
    · rw [if_pos rfl] at hp
      have a : frI (n % 1048576 / 8 % 256) := ⟨by omega, by omega⟩
      refine ⟨1, _, _, _, _, hp, stp_1 _ a.1 a.2, .inl rfl, fun _ => a, .inl (by decide), .inr (.inl ⟨rfl, a, rfl⟩), by simp [rkF], fun k hk => ?_⟩
      simp [hasF, one_no hk, frdF]
    · rw [if_neg (by decide)] at hp
      refine ⟨6, _, _, _, _, hp, stp_k1, .inl rfl, fun h => absurd h (by decide), .inl (by decide), .inr (.inr (.inr (.inr (.inr (.inr (.inl ⟨rfl, rfl, .inl rfl⟩)))))), by simp [rkF], fun k hk => ?_⟩
      simp [hasF, one_no hk, frdF]
  · right
    have hg : g ≠ -1 := by have := h.1; omega
    obtain ⟨e, he, hp⟩ := pck_mem (r := (1, -1, g)) n (by rw [evs_1w hg]; simp)
    rw [evs_1w hg] at he
    rcases (by simpa using he : e = 2 ∨ e = 4 ∨ e = 6) with rfl | rfl | rfl
    · rw [if_neg (by decide)] at hp
      refine ⟨2, _, _, _, _, hp, stp_c g h.1 h.2, .inl rfl, fun h => absurd h (by decide), .inl (by decide), .inr (.inr (.inr (.inl ⟨rfl, rfl, h⟩))), by simp [rkF, hg], fun k hk => ?_⟩
      simp [hasF, one_no hk, frdF]
    · rw [if_neg (by decide)] at hp
      refine ⟨4, _, _, _, _, hp, stp_w g h.1 h.2, .inr ⟨g, rfl, h⟩, fun h => absurd h (by decide), .inl (by decide), .inl ⟨rfl, rfl, .inl rfl⟩, by simp [rkF, hg], fun k hk => ?_⟩
      simp [hasF, one_no hk, frdF]
    · rw [if_neg (by decide)] at hp
      refine ⟨6, _, _, _, _, hp, stp_k1w h, .inl rfl, fun h => absurd h (by decide), .inl (by decide), .inr (.inr (.inr (.inr (.inr (.inr (.inl ⟨rfl, rfl, .inr h⟩)))))), by simp [rkF, hg], fun k hk => ?_⟩
      simp [hasF, one_no hk, frdF]
  · right
    obtain ⟨e, he, hp⟩ := pck_mem (r := (2, f, -1)) n (by rw [evs_2]; simp)
    rw [evs_2] at he
    rcases (by simpa using he : e = 3 ∨ e = 6) with rfl | rfl
    · rw [if_neg (by decide)] at hp
      refine ⟨3, _, _, _, _, hp, stp_2 f h.1 h.2, .inl rfl, fun h => absurd h (by decide), .inl (by decide), .inr (.inr (.inl ⟨rfl, h, rfl⟩)), by simp [rkF], fun k hk => ?_⟩
      simp [hasF, one_no hk, frdF]
    · rw [if_neg (by decide)] at hp
      refine ⟨6, _, _, _, _, hp, stp_k2 h, .inr ⟨f, rfl, h⟩, fun h => absurd h (by decide), .inl (by decide), .inr (.inr (.inr (.inr (.inr (.inr (.inl ⟨rfl, rfl, .inl rfl⟩)))))), by simp [rkF], fun k hk => ?_⟩
      simp [hasF, one_no hk, frdF]
  · right
    obtain ⟨e, he, hp⟩ := pck_mem (r := (3, f, -1)) n (by rw [evs_3]; simp)
    rw [evs_3] at he
    rcases (by simpa using he : e = 5 ∨ e = 6) with rfl | rfl
    · rw [if_neg (by decide)] at hp
      refine ⟨5, _, _, _, _, hp, stp_3 f h.1 h.2, .inl rfl, fun h => absurd h (by decide), .inr rfl, .inr (.inr (.inr (.inr (.inl ⟨rfl, h, rfl⟩)))), by simp [rkF], fun k hk => ?_⟩
      simp [hasF, one_no hk, frdF]
    · rw [if_neg (by decide)] at hp
      refine ⟨6, _, _, _, _, hp, stp_k3 h, .inl rfl, fun h => absurd h (by decide), .inl (by decide), .inr (.inr (.inr (.inr (.inr (.inl ⟨rfl, h, rfl⟩))))), by simp [rkF], fun k hk => ?_⟩
      simp [hasF, one_no hk, frdF]
  · right
    have hg : g ≠ -1 := by have := h.1; omega
    obtain ⟨e, he, hp⟩ := pck_mem (r := (4, -1, g)) n (by rw [evs_4 hg]; simp)
    rw [evs_4 hg] at he
    rcases (by simpa using he : e = 4 ∨ e = 6) with rfl | rfl
    · rw [if_neg (by decide)] at hp
      refine ⟨4, _, _, _, _, hp, stp_4 g h.1 h.2, .inl rfl, fun h => absurd h (by decide), .inr rfl, .inr (.inr (.inr (.inr (.inl ⟨rfl, h, rfl⟩)))), by simp [rkF], fun k hk => ?_⟩
      simp [hasF, one_no hk, frdF]
    · rw [if_neg (by decide)] at hp
      refine ⟨6, _, _, _, _, hp, stp_k4 h, .inl rfl, fun h => absurd h (by decide), .inl (by decide), .inr (.inr (.inr (.inr (.inr (.inr (.inl ⟨rfl, rfl, .inr h⟩)))))), by simp [rkF, hg], fun k hk => ?_⟩
      simp [hasF, one_no hk, frdF]
  · exact .inl ⟨none_ _ (evs_5 f), evs_5 f⟩
  · right
    obtain ⟨e, he, hp⟩ := pck_mem (r := (6, f, -1)) n (by rw [evs_6]; simp)
    rw [evs_6] at he
    obtain rfl : e = 5 := by simpa using he
    rw [if_neg (by decide)] at hp
    refine ⟨5, _, _, _, _, hp, stp_r6 h, .inr ⟨f, rfl, h⟩, fun h => absurd h (by decide), .inl (by decide), .inr (.inr (.inr (.inr (.inr (.inr (.inr ⟨rfl, rfl, rfl⟩)))))), by simp [rkF], fun k hk => ?_⟩
    simp [hasF, one_no hk, frdF]
  · exact .inl ⟨none_ _ evs_7, evs_7⟩
  · right
    have hg : g ≠ -1 := by have := h.1; omega
    obtain ⟨e, he, hp⟩ := pck_mem (r := (7, -1, g)) n (by rw [evs_7w hg]; simp)
    rw [evs_7w hg] at he
    obtain rfl : e = 4 := by simpa using he
    rw [if_neg (by decide)] at hp
    refine ⟨4, _, _, _, _, hp, stp_w7 h, .inr ⟨g, rfl, h⟩, fun h => absurd h (by decide), .inl (by decide), .inr (.inr (.inr (.inr (.inr (.inr (.inl ⟨rfl, rfl, .inl rfl⟩)))))), by simp [rkF, hg], fun k hk => ?_⟩
    simp [hasF, one_no hk, frdF]
  · exact .inl ⟨none_ _ evs_8, evs_8⟩
/-- The frames that Frames lists. -/
theorem framF {r : RI} (h : InF r) : (framR r).2 = 0 ∧ (framR r).1.length ≤ 2 ∧ ∀ k : Int, 0 ≤ k → (if k ∈ (framR r).1 then 1 else 0) = hasF r k := by
  have hc := chkF h
  have hl : (framR r).1 = if r.2.1 > r.2.2 then thereF [r.2.2, r.2.1] else thereF [r.2.1, r.2.2] := by unfold framR; rw [if_pos hc]
  refine ⟨by unfold framR; rw [if_pos hc], ?_, fun k hk => ?_⟩
  · rw [hl]; split <;> exact thereF_len _
  · have hm : k ∈ (framR r).1 ↔ k = r.2.1 ∨ k = r.2.2 := by
      rw [hl]
      split <;> (unfold thereF; simp; omega)
    obtain ⟨s, f, g⟩ := r
    have hfg : ¬ (k = f ∧ k = g) := by
      rintro ⟨rfl, rfl⟩
      simp only [InF, frI] at h
      omega
    simp only at hm
    unfold hasF oneI
    simp only [hm]
    split <;> split <;> split <;> simp_all <;> omega
end Go.Proofs.YtngenoblifhnpaaDoor
