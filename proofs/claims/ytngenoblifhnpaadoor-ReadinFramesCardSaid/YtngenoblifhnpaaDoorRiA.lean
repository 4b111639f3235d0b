/- ReadinArrives in plain Lean: the accesses that are reached without kills, the shortest way step by step, and what an event that is picked makes of them. -/
import Derived.Test.YtngenoblifhnpaaDoorRiM
namespace Go.Proofs.YtngenoblifhnpaaDoor
open Go.RowKit Go.Maps

/-- An access that is reached without kills. -/
def InA (r : RI) : Prop :=
  (r.1 = 1 ∧ r.2.1 = -1 ∧ (r.2.2 = -1 ∨ (0 ≤ r.2.2 ∧ r.2.2 < 256))) ∨ (r.1 = 2 ∧ (0 ≤ r.2.1 ∧ r.2.1 < 256) ∧ r.2.2 = -1) ∨ (r.1 = 3 ∧ (0 ≤ r.2.1 ∧ r.2.1 < 256) ∧ r.2.2 = -1) ∨ (r.1 = 4 ∧ r.2.1 = -1 ∧ (0 ≤ r.2.2 ∧ r.2.2 < 256)) ∨ (r.1 = 5 ∧ (0 ≤ r.2.1 ∧ r.2.1 < 256) ∧ r.2.2 = -1)
/-- How many events are left at most. -/
def rkA (r : RI) : Nat := if r.1 = 1 then (if r.2.2 = -1 then 3 else 4) else if r.1 = 2 then 2 else if r.1 = 3 ∨ r.1 = 4 then 1 else 0
/-- The access behind an event of the shortest way. -/
def nxtA (s : RI) (e : Int) : RI := (stpR s e (if e = 1 then 7 else -1)).1
def seqA (r : RI) (j : Nat) : RI := ((shtR r).1.take j).foldl nxtA r

theorem chk_1 : chkR (1, -1, -1) = 0 := by decide
theorem frOk_in {g : Int} (h0 : 0 ≤ g) (h1 : g < 256) : frOk g = true := by unfold frOk; simp; omega
theorem chk_1w {g : Int} (h0 : 0 ≤ g) (h1 : g < 256) : chkR (1, -1, g) = 0 := by simp [chkR, frOk_in h0 h1, goodR]; decide
theorem chk_2 {f : Int} (h0 : 0 ≤ f) (h1 : f < 256) : chkR (2, f, -1) = 0 := by simp [chkR, frOk_in h0 h1, goodR, show f ≠ -1 by omega]; decide
theorem chk_3 {f : Int} (h0 : 0 ≤ f) (h1 : f < 256) : chkR (3, f, -1) = 0 := by simp [chkR, frOk_in h0 h1, goodR, show f ≠ -1 by omega]; decide
theorem chk_4 {g : Int} (h0 : 0 ≤ g) (h1 : g < 256) : chkR (4, -1, g) = 0 := by simp [chkR, frOk_in h0 h1, goodR, show g ≠ -1 by omega, show (-1 : Int) ≠ g by omega]; decide
theorem chk_5 {f : Int} (h0 : 0 ≤ f) (h1 : f < 256) : chkR (5, f, -1) = 0 := by simp [chkR, frOk_in h0 h1, goodR, show f ≠ -1 by omega]; decide

/-- What the law asks of an access in a round. -/
structure RoundA (r : RI) : Prop where
  chk : chkR r = 0
  sho : (shtR r).2 = 0
  nee : neeR r = (((shtR r).1.length : Int), 0)
  len : (shtR r).1.length ≤ 3
  seq : ∀ (j : Nat) (x : Int), (shtR r).1[j]? = some x → ∃ fr mp, stpR (seqA r j) x (if x = 1 then 7 else -1) = (seqA r (j + 1), fr, mp, 0) ∧ neeR (seqA r (j + 1)) = (((shtR r).1.length : Int) - j - 1, 0)
  last : (seqA r (shtR r).1.length).1 = 5
theorem two_cases {P : Nat → Int → Prop} {l : List Int} {a b : Int} (hl : l = [a, b]) (h0 : P 0 a) (h1 : P 1 b) : ∀ (j : Nat) (x : Int), l[j]? = some x → P j x := by
  subst hl
  rintro (_ | _ | j) x h
  · simp at h; subst h; exact h0
  · simp at h; subst h; exact h1
  · simp at h
theorem three_cases {P : Nat → Int → Prop} {l : List Int} {a b c : Int} (hl : l = [a, b, c]) (h0 : P 0 a) (h1 : P 1 b) (h2 : P 2 c) : ∀ (j : Nat) (x : Int), l[j]? = some x → P j x := by
  subst hl
  rintro (_ | _ | _ | j) x h
  · simp at h; subst h; exact h0
  · simp at h; subst h; exact h1
  · simp at h; subst h; exact h2
  · simp at h
theorem one_case {P : Nat → Int → Prop} {l : List Int} {a : Int} (hl : l = [a]) (h0 : P 0 a) : ∀ (j : Nat) (x : Int), l[j]? = some x → P j x := by
  subst hl
  rintro (_ | j) x h
  · simp at h; subst h; exact h0
  · simp at h
theorem stp_1 (f : Int) (h0 : 0 ≤ f) (h1 : f < 256) : stpR (1, -1, -1) 1 f = ((2, f, -1), [], -1, 0) := by
  simp [stpR, chk_1, h0, h1, canR, aftR]; omega
theorem stp_2 (f : Int) (h0 : 0 ≤ f) (h1 : f < 256) : stpR (2, f, -1) 3 (-1) = ((3, f, -1), [], -1, 0) := by simp [stpR, chk_2 h0 h1, canR, aftR]
theorem stp_3 (f : Int) (h0 : 0 ≤ f) (h1 : f < 256) : stpR (3, f, -1) 5 (-1) = ((5, f, -1), [], f, 0) := by simp [stpR, chk_3 h0 h1, canR, aftR]
theorem stp_c (g : Int) (h0 : 0 ≤ g) (h1 : g < 256) : stpR (1, -1, g) 2 (-1) = ((4, -1, g), [], -1, 0) := by simp [stpR, chk_1w h0 h1, canR, aftR, show g ≠ -1 by omega]
theorem stp_w (g : Int) (h0 : 0 ≤ g) (h1 : g < 256) : stpR (1, -1, g) 4 (-1) = ((1, -1, -1), [g], -1, 0) := by simp [stpR, chk_1w h0 h1, canR, aftR, thereF, show g ≠ -1 by omega]
theorem stp_4 (g : Int) (h0 : 0 ≤ g) (h1 : g < 256) : stpR (4, -1, g) 4 (-1) = ((5, g, -1), [], g, 0) := by simp [stpR, chk_4 h0 h1, canR, aftR, thereF, show g ≠ -1 by omega]
theorem sht_1 : shtR (1, -1, -1) = ([1, 3, 5], 0) := by decide
theorem sht_1w {g : Int} (h0 : 0 ≤ g) (h1 : g < 256) : shtR (1, -1, g) = ([2, 4], 0) := by simp [shtR, chk_1w h0 h1, shoR, show g ≠ -1 by omega]
theorem sht_2 {f : Int} (h0 : 0 ≤ f) (h1 : f < 256) : shtR (2, f, -1) = ([3, 5], 0) := by simp [shtR, chk_2 h0 h1, shoR]
theorem sht_3 {f : Int} (h0 : 0 ≤ f) (h1 : f < 256) : shtR (3, f, -1) = ([5], 0) := by simp [shtR, chk_3 h0 h1, shoR]
theorem sht_4 {g : Int} (h0 : 0 ≤ g) (h1 : g < 256) : shtR (4, -1, g) = ([4], 0) := by simp [shtR, chk_4 h0 h1, shoR]
theorem sht_5 {f : Int} (h0 : 0 ≤ f) (h1 : f < 256) : shtR (5, f, -1) = ([], 0) := by simp [shtR, chk_5 h0 h1, shoR]
theorem nee_1 : neeR (1, -1, -1) = (3, 0) := by decide
theorem nee_1w {g : Int} (h0 : 0 ≤ g) (h1 : g < 256) : neeR (1, -1, g) = (2, 0) := by simp [neeR, chk_1w h0 h1, ndsR, show g ≠ -1 by omega]
theorem nee_2 {f : Int} (h0 : 0 ≤ f) (h1 : f < 256) : neeR (2, f, -1) = (2, 0) := by simp [neeR, chk_2 h0 h1, ndsR]
theorem nee_3 {f : Int} (h0 : 0 ≤ f) (h1 : f < 256) : neeR (3, f, -1) = (1, 0) := by simp [neeR, chk_3 h0 h1, ndsR]
theorem nee_4 {g : Int} (h0 : 0 ≤ g) (h1 : g < 256) : neeR (4, -1, g) = (1, 0) := by simp [neeR, chk_4 h0 h1, ndsR]
theorem nee_5 {f : Int} (h0 : 0 ≤ f) (h1 : f < 256) : neeR (5, f, -1) = (0, 0) := by simp [neeR, chk_5 h0 h1, ndsR]

theorem roundA {r : RI} (h : InA r) : RoundA r := by
  obtain ⟨s, f, g⟩ := r
  simp only [InA] at h
  rcases h with ⟨rfl, rfl, rfl | ⟨h0, h1⟩⟩ | ⟨rfl, ⟨h0, h1⟩, rfl⟩ | ⟨rfl, ⟨h0, h1⟩, rfl⟩ | ⟨rfl, rfl, h0, h1⟩ | ⟨rfl, ⟨h0, h1⟩, rfl⟩
  · have a : ∀ j, seqA (1, -1, -1) j = ([1, 3, 5].take j).foldl nxtA (1, -1, -1) := fun j => by unfold seqA; rw [sht_1]
    have n1 : nxtA (1, -1, -1) 1 = (2, 7, -1) := by unfold nxtA; rw [if_pos rfl, stp_1 7 (by decide) (by decide)]
    have n2 : nxtA (2, 7, -1) 3 = (3, 7, -1) := by unfold nxtA; rw [if_neg (by decide), stp_2 7 (by decide) (by decide)]
    have n3 : nxtA (3, 7, -1) 5 = (5, 7, -1) := by unfold nxtA; rw [if_neg (by decide), stp_3 7 (by decide) (by decide)]
    refine ⟨chk_1, by rw [sht_1], by rw [nee_1, sht_1]; rfl, by rw [sht_1]; decide, ?_, by rw [sht_1, a]; simp [n1, n2, n3]⟩
    rw [sht_1]
    refine three_cases (P := fun j x => ∃ fr mp, stpR (seqA _ j) x (if x = 1 then 7 else -1) = (seqA _ (j + 1), fr, mp, 0) ∧ neeR (seqA _ (j + 1)) = _) rfl ?_ ?_ ?_
    · exact ⟨[], -1, by rw [a, a]; simp [n1, stp_1], by rw [a]; simp [n1, nee_2]⟩
    · exact ⟨[], -1, by rw [a, a]; simp [n1, n2, stp_2], by rw [a]; simp [n1, n2, nee_3]⟩
    · exact ⟨[], 7, by rw [a, a]; simp [n1, n2, n3, stp_3], by rw [a]; simp [n1, n2, n3, nee_5]⟩
  · have a : ∀ j, seqA (1, -1, g) j = ([2, 4].take j).foldl nxtA (1, -1, g) := fun j => by unfold seqA; rw [sht_1w h0 h1]
    have n1 : nxtA (1, -1, g) 2 = (4, -1, g) := by unfold nxtA; rw [if_neg (by decide), stp_c g h0 h1]
    have n2 : nxtA (4, -1, g) 4 = (5, g, -1) := by unfold nxtA; rw [if_neg (by decide), stp_4 g h0 h1]
    refine ⟨chk_1w h0 h1, by rw [sht_1w h0 h1], by rw [nee_1w h0 h1, sht_1w h0 h1]; rfl, by rw [sht_1w h0 h1]; decide, ?_, by rw [sht_1w h0 h1, a]; simp [n1, n2]⟩
    rw [sht_1w h0 h1]
    refine two_cases (P := fun j x => ∃ fr mp, stpR (seqA _ j) x (if x = 1 then 7 else -1) = (seqA _ (j + 1), fr, mp, 0) ∧ neeR (seqA _ (j + 1)) = _) rfl ?_ ?_
    · exact ⟨[], -1, by rw [a, a]; simp [n1, stp_c, h0, h1], by rw [a]; simp [n1, nee_4 h0 h1]⟩
    · exact ⟨[], g, by rw [a, a]; simp [n1, n2, stp_4, h0, h1], by rw [a]; simp [n1, n2, nee_5 h0 h1]⟩
  · have a : ∀ j, seqA (2, f, -1) j = ([3, 5].take j).foldl nxtA (2, f, -1) := fun j => by unfold seqA; rw [sht_2 h0 h1]
    have n1 : nxtA (2, f, -1) 3 = (3, f, -1) := by unfold nxtA; rw [if_neg (by decide), stp_2 f h0 h1]
    have n2 : nxtA (3, f, -1) 5 = (5, f, -1) := by unfold nxtA; rw [if_neg (by decide), stp_3 f h0 h1]
    refine ⟨chk_2 h0 h1, by rw [sht_2 h0 h1], by rw [nee_2 h0 h1, sht_2 h0 h1]; rfl, by rw [sht_2 h0 h1]; decide, ?_, by rw [sht_2 h0 h1, a]; simp [n1, n2]⟩
    rw [sht_2 h0 h1]
    refine two_cases (P := fun j x => ∃ fr mp, stpR (seqA _ j) x (if x = 1 then 7 else -1) = (seqA _ (j + 1), fr, mp, 0) ∧ neeR (seqA _ (j + 1)) = _) rfl ?_ ?_
    · exact ⟨[], -1, by rw [a, a]; simp [n1, stp_2, h0, h1], by rw [a]; simp [n1, nee_3 h0 h1]⟩
    · exact ⟨[], f, by rw [a, a]; simp [n1, n2, stp_3, h0, h1], by rw [a]; simp [n1, n2, nee_5 h0 h1]⟩
  · have a : ∀ j, seqA (3, f, -1) j = ([5].take j).foldl nxtA (3, f, -1) := fun j => by unfold seqA; rw [sht_3 h0 h1]
    have n2 : nxtA (3, f, -1) 5 = (5, f, -1) := by unfold nxtA; rw [if_neg (by decide), stp_3 f h0 h1]
    refine ⟨chk_3 h0 h1, by rw [sht_3 h0 h1], by rw [nee_3 h0 h1, sht_3 h0 h1]; rfl, by rw [sht_3 h0 h1]; decide, ?_, by rw [sht_3 h0 h1, a]; simp [n2]⟩
    rw [sht_3 h0 h1]
    refine one_case (P := fun j x => ∃ fr mp, stpR (seqA _ j) x (if x = 1 then 7 else -1) = (seqA _ (j + 1), fr, mp, 0) ∧ neeR (seqA _ (j + 1)) = _) rfl ?_
    exact ⟨[], f, by rw [a, a]; simp [n2, stp_3, h0, h1], by rw [a]; simp [n2, nee_5 h0 h1]⟩
  · have a : ∀ j, seqA (4, -1, g) j = ([4].take j).foldl nxtA (4, -1, g) := fun j => by unfold seqA; rw [sht_4 h0 h1]
    have n2 : nxtA (4, -1, g) 4 = (5, g, -1) := by unfold nxtA; rw [if_neg (by decide), stp_4 g h0 h1]
    refine ⟨chk_4 h0 h1, by rw [sht_4 h0 h1], by rw [nee_4 h0 h1, sht_4 h0 h1]; rfl, by rw [sht_4 h0 h1]; decide, ?_, by rw [sht_4 h0 h1, a]; simp [n2]⟩
    rw [sht_4 h0 h1]
    refine one_case (P := fun j x => ∃ fr mp, stpR (seqA _ j) x (if x = 1 then 7 else -1) = (seqA _ (j + 1), fr, mp, 0) ∧ neeR (seqA _ (j + 1)) = _) rfl ?_
    exact ⟨[], g, by rw [a, a]; simp [n2, stp_4, h0, h1], by rw [a]; simp [n2, nee_5 h0 h1]⟩
  · refine ⟨chk_5 h0 h1, by rw [sht_5 h0 h1], by rw [nee_5 h0 h1, sht_5 h0 h1]; rfl, by rw [sht_5 h0 h1]; decide, ?_, by rw [sht_5 h0 h1]; rfl⟩
    rw [sht_5 h0 h1]
    intro j x h
    simp at h
theorem evs_1 : evsR (1, -1, -1) = [1, 6] := by decide
theorem evs_1w {g : Int} (h : g ≠ -1) : evsR (1, -1, g) = [2, 4, 6] := by simp [evsR, canR, h]
theorem evs_2 (f : Int) : evsR (2, f, -1) = [3, 6] := by simp [evsR, canR]
theorem evs_3 (f : Int) : evsR (3, f, -1) = [5, 6] := by simp [evsR, canR]
theorem evs_4 {g : Int} (h : g ≠ -1) : evsR (4, -1, g) = [4, 6] := by simp [evsR, canR, h]
theorem evs_5 (f : Int) : evsR (5, f, -1) = [] := by simp [evsR, canR]
theorem pck_one {r : RI} {e : Int} (h : evsR r = [e, 6]) (n : Int) : pckR r n false = if e = 1 then (1, n % 1048576 / 8 % 256, true) else (e, -1, true) := by
  have : pckL r false = [e] := by unfold pckL; rw [h]; simp
  unfold pckR
  rw [this, if_neg (by simp)]
  have : (n % 1048576 % (([e] : List Int).length : Int)).toNat = 0 := by simp
  rw [this]
  try simp only [List.getD_cons_zero]
  try (split <;> simp_all)
/-- An event that is picked. -/
theorem pickA {r : RI} (h : InA r) (n : Int) : (pckR r n false = (0, 0, false) ∧ r.1 = 5) ∨
    ∃ ev fr t fl mp m, pckR r n false = (ev, fr, true) ∧ stpR r ev fr = (t, fl, mp, 0) ∧ neeR t = (m, 0) ∧ (m ≤ (shtR r).1.length ∨ ev = 4) ∧ InA t ∧ rkA t < rkA r := by
  obtain ⟨s, f, g⟩ := r
  simp only [InA] at h
  rcases h with ⟨rfl, rfl, rfl | ⟨h0, h1⟩⟩ | ⟨rfl, ⟨h0, h1⟩, rfl⟩ | ⟨rfl, ⟨h0, h1⟩, rfl⟩ | ⟨rfl, rfl, h0, h1⟩ | ⟨rfl, ⟨h0, h1⟩, rfl⟩
  · right
    have a0 : 0 ≤ n % 1048576 / 8 % 256 := by omega
    have a1 : n % 1048576 / 8 % 256 < 256 := by omega
    refine ⟨1, _, _, _, _, _, by rw [pck_one evs_1, if_pos rfl], stp_1 _ a0 a1, nee_2 a0 a1, .inl (by rw [sht_1]; decide), ?_, by simp [rkA]⟩
    exact .inr (.inl ⟨rfl, ⟨a0, a1⟩, rfl⟩)
  · right
    have hg : g ≠ -1 := by omega
    have hp : pckL (1, -1, g) false = [2, 4] := by unfold pckL; rw [evs_1w hg]; simp
    have hr : rkA (1, -1, g) = 4 := by simp [rkA, hg]
    have hq : pckR (1, -1, g) n false = if n % 1048576 % 2 = 0 then (2, -1, true) else (4, -1, true) := by
      unfold pckR
      rw [hp, if_neg (by simp)]
      rcases (by omega : n % 1048576 % 2 = 0 ∨ n % 1048576 % 2 = 1) with h | h
      · rw [show (([2, 4] : List Int).length : Int) = 2 from rfl, h]; rfl
      · rw [show (([2, 4] : List Int).length : Int) = 2 from rfl, h]; rfl
    rcases (by omega : n % 1048576 % 2 = 0 ∨ n % 1048576 % 2 = 1) with h | h
    · refine ⟨2, -1, _, _, _, _, by rw [hq, if_pos h], stp_c g h0 h1, nee_4 h0 h1, .inl (by rw [sht_1w h0 h1]; decide), ?_, by rw [hr]; simp [rkA]⟩
      exact .inr (.inr (.inr (.inl ⟨rfl, rfl, h0, h1⟩)))
    · refine ⟨4, -1, _, _, _, _, by rw [hq, if_neg (by omega)], stp_w g h0 h1, nee_1, .inr rfl, ?_, by rw [hr]; simp [rkA]⟩
      exact .inl ⟨rfl, rfl, .inl rfl⟩
  · right
    refine ⟨3, -1, _, _, _, _, by rw [pck_one (evs_2 f), if_neg (by decide)], stp_2 f h0 h1, nee_3 h0 h1, .inl (by rw [sht_2 h0 h1]; decide), ?_, by simp [rkA]⟩
    exact .inr (.inr (.inl ⟨rfl, ⟨h0, h1⟩, rfl⟩))
  · right
    refine ⟨5, -1, _, _, _, _, by rw [pck_one (evs_3 f), if_neg (by decide)], stp_3 f h0 h1, nee_5 h0 h1, .inl (by rw [sht_3 h0 h1]; decide), ?_, by simp [rkA]⟩
    exact .inr (.inr (.inr (.inr ⟨rfl, ⟨h0, h1⟩, rfl⟩)))
  · right
    have hg : g ≠ -1 := by omega
    refine ⟨4, -1, _, _, _, _, by rw [pck_one (evs_4 hg), if_neg (by decide)], stp_4 g h0 h1, nee_5 h0 h1, .inl (by rw [sht_4 h0 h1]; decide), ?_, by simp [rkA]⟩
    exact .inr (.inr (.inr (.inr ⟨rfl, ⟨h0, h1⟩, rfl⟩)))
  · left
    refine ⟨?_, rfl⟩
    unfold pckR
    have : pckL (5, f, -1) false = [] := by unfold pckL; rw [evs_5]; simp
    rw [this, if_pos rfl]
end Go.Proofs.YtngenoblifhnpaaDoor
