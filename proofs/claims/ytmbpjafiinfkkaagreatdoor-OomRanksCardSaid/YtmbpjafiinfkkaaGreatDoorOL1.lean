/- Package oom: candidates, ranks and the victim, in plain words. No statement is proved here. -/
import Derived.Test.YtmbpjafiinfkkaaGreatDoorOP3
import Derived.Sort.Statements
namespace Go.Proofs.YtmbpjafiinfkkaaGreatDoor
set_option linter.unusedSimpArgs false
set_option linter.unusedVariables false
open Go.RowKit Go.Maps
open Go.Sort

/-- A candidate: its process, its score. -/
abbrev C2 := Int × Int
/-- x goes ahead of y. -/
def ltC (x y : C2) : Bool := decide (y.2 < x.2 ∨ (x.2 = y.2 ∧ x.1 < y.1))
theorem ltC_iff (x y : C2) : ltC x y = true ↔ (y.2 < x.2 ∨ (x.2 = y.2 ∧ x.1 < y.1)) := by simp [ltC]
theorem ltC_false (x y : C2) : ltC x y = false ↔ ¬(y.2 < x.2 ∨ (x.2 = y.2 ∧ x.1 < y.1)) := by
  rw [← ltC_iff]; simp
theorem swoC : SWO ltC where
  irrefl x := by rw [ltC_false]; omega
  trans x y z h1 h2 := by rw [ltC_iff] at *; omega
  ntrans x y z h1 h2 := by rw [ltC_false] at *; omega
theorem totC (x y : C2) (h1 : ltC x y = false) (h2 : ltC y x = false) : x = y := by
  rw [ltC_false] at *
  exact Prod.ext (by omega) (by omega)
/-- Candidates in the order of ranks. -/
def srtC (l : List C2) : List C2 := l.mergeSort fun x y => !ltC y x
theorem srtC_len (l : List C2) : (srtC l).length = l.length := by simp [srtC]
theorem srtC_mem (l : List C2) (x : C2) : x ∈ srtC l ↔ x ∈ l := by simp [srtC]
theorem srtC_asc (l : List C2) : (srtC l).Pairwise fun x y => ltC y x = false := by
  have h1 : (srtC l).Pairwise fun x y => (!ltC y x) = true := List.pairwise_mergeSort (fun a b c h1 h2 => by
    simp only [Bool.not_eq_true'] at *
    exact swoC.ntrans c b a h2 h1) (fun a b => by
    cases h : ltC b a with
    | false => rfl
    | true =>
      cases h' : ltC a b with
      | false => rfl
      | true => have := swoC.trans _ _ _ h h'; rw [swoC.irrefl] at this; cases this) l
  exact h1.imp fun {a b} h => by simpa using h

/-- Process k+1 as a candidate. -/
def candAt (l : List PV) (sp : List Int) (k : Nat) : Option C2 :=
  match l[k]? with
  | some p => if p.st ≠ 0 ∧ ((k : Int) + 1) ∉ sp then some ((k : Int) + 1, scoN p.es) else none
  | none => none
theorem candAt_fst {l : List PV} {sp : List Int} {k : Nat} {x : C2} (h : candAt l sp k = some x) : x.1 = (k : Int) + 1 := by
  unfold candAt at h
  split at h
  · split at h
    · cases h; rfl
    · cases h
  · cases h
/-- All candidates, by ascending processes. -/
def candL (l : List PV) (sp : List Int) : List C2 := (List.range l.length).filterMap (candAt l sp)
/-- The candidates among the first n processes as a map. -/
def candF (l : List PV) (sp : List Int) (n : Nat) (j : Int) : Option Int := if 1 ≤ j ∧ j ≤ n then (candAt l sp (j - 1).toNat).map (·.2) else none
theorem candF_zero (l : List PV) (sp : List Int) : candF l sp 0 = fun _ => none := by
  funext j
  unfold candF
  rw [if_neg (by omega)]
theorem candF_put {l : List PV} {k : Nat} {p : PV} (h : l[k]? = some p) (h0 : p.st ≠ 0) : candF l [] (k + 1) = fun j => if j = (k : Int) + 1 then some (scoN p.es) else candF l [] k j := by
  funext j
  unfold candF
  by_cases e : j = (k : Int) + 1
  · subst e
    rw [if_pos rfl, if_pos (by omega), show ((k : Int) + 1 - 1).toNat = k by omega]
    unfold candAt
    rw [h]
    simp [h0]
  · rw [if_neg e]
    by_cases h1 : 1 ≤ j ∧ j ≤ k
    · rw [if_pos h1, if_pos (by omega)]
    · rw [if_neg h1, if_neg (by omega)]
theorem candF_skip {l : List PV} {k : Nat} {p : PV} (h : l[k]? = some p) (h0 : p.st = 0) : candF l [] (k + 1) = candF l [] k := by
  funext j
  unfold candF
  by_cases e : j = (k : Int) + 1
  · subst e
    rw [if_pos (by omega), if_neg (by omega), show ((k : Int) + 1 - 1).toNat = k by omega]
    unfold candAt
    rw [h]
    simp [h0]
  · by_cases h1 : 1 ≤ j ∧ j ≤ k
    · rw [if_pos h1, if_pos (by omega)]
    · rw [if_neg h1, if_neg (by omega)]
theorem candF_del (l : List PV) (sp : List Int) (x : Int) (n : Nat) : candF l (sp ++ [x]) n = fun j => if j = x then none else candF l sp n j := by
  funext j
  unfold candF
  by_cases h1 : 1 ≤ j ∧ j ≤ n
  · rw [if_pos h1, if_pos h1]
    unfold candAt
    have e : (((j - 1).toNat : Nat) : Int) + 1 = j := by omega
    rw [e]
    split
    · rename_i p hp
      by_cases hx : j = x
      · subst hx; simp
      · rw [if_neg hx]
        simp [hx]
    · split <;> rfl
  · rw [if_neg h1, if_neg h1]
    split <;> rfl
theorem candL_mem (l : List PV) (sp : List Int) (x : C2) : x ∈ candL l sp ↔ candF l sp l.length x.1 = some x.2 := by
  unfold candL candF
  rw [List.mem_filterMap]
  constructor
  · rintro ⟨k, hk, h⟩
    have h1 := candAt_fst h
    have h2 := List.mem_range.1 hk
    rw [if_pos (by omega), show (x.1 - 1).toNat = k by omega, h]
    rfl
  · intro h
    split at h
    · rename_i h1
      obtain ⟨y, hy, e⟩ := Option.map_eq_some_iff.1 h
      refine ⟨(x.1 - 1).toNat, List.mem_range.2 (by omega), ?_⟩
      have h2 := candAt_fst hy
      rw [hy]
      congr 1
      exact Prod.ext (by omega) e
    · cases h
theorem candL_asc (l : List PV) (sp : List Int) : (candL l sp).Pairwise fun x y => x.1 < y.1 := by
  unfold candL
  rw [List.pairwise_filterMap]
  refine List.pairwise_lt_range.imp ?_
  intro a b h x hx y hy
  have := candAt_fst hx; have := candAt_fst hy
  omega
theorem candL_len (l : List PV) (sp : List Int) : (candL l sp).length ≤ l.length := by
  unfold candL
  refine Nat.le_trans (List.length_filterMap_le _ _) (by simp)
/-- The processes of the candidates, ascending; and which they are. -/
theorem candL_keys (l : List PV) (sp : List Int) : ((candL l sp).map (·.1)).Pairwise (· < ·) := by
  rw [List.pairwise_map]
  exact candL_asc l sp
theorem candL_key_mem (l : List PV) (sp : List Int) (j : Int) : j ∈ (candL l sp).map (·.1) ↔ ∃ s, candF l sp l.length j = some s := by
  rw [List.mem_map]
  constructor
  · rintro ⟨x, hx, rfl⟩
    exact ⟨x.2, (candL_mem l sp x).1 hx⟩
  · rintro ⟨s, hs⟩
    exact ⟨(j, s), (candL_mem l sp (j, s)).2 hs, rfl⟩
theorem candL_nodup (l : List PV) (sp : List Int) : (candL l sp).Nodup := (candL_asc l sp).imp fun {a b} h e => by subst e; omega
/-- All that could be victims, the first one first. -/
def rnkL (l : List PV) (sp : List Int) : List Int := (srtC (candL l sp)).map (·.1)
theorem rnkL_len (l : List PV) (sp : List Int) : (rnkL l sp).length ≤ l.length := by
  unfold rnkL
  rw [List.length_map, srtC_len]
  exact candL_len l sp
/-- The error of candidates. -/
def spB (n : Nat) (sp : List Int) : Bool := sp.any fun x => decide (x < 1) || decide ((n : Int) < x)
def rnkE (l : List PV) (sp : List Int) : Int := if scrE l = 0 then (if spB l.length sp then 2 else 0) else scrE l
def vicE (l : List PV) (sp : List Int) : Int := if rnkE l sp = 0 then (if rnkL l sp = [] then 6 else 0) else rnkE l sp
def vicI (l : List PV) (sp : List Int) : Int := if rnkE l sp = 0 then (rnkL l sp).headD 0 else 0
/-- The first of a list's order. -/
theorem srtC_head {l : List C2} {m : C2} (hm : m ∈ l) (h : ∀ y ∈ l, ltC y m = false) : (srtC l)[0]? = some m := by
  have h1 := srtC_asc l
  have h2 := (srtC_mem l m).2 hm
  have h3 : ∀ y ∈ srtC l, ltC y m = false := fun y hy => h y ((srtC_mem l y).1 hy)
  cases hs : srtC l with
  | nil => rw [hs] at h2; cases h2
  | cons a t =>
    rw [hs] at h1 h2 h3
    obtain ⟨h4, _⟩ := List.pairwise_cons.1 h1
    have h5 := h3 a (by simp)
    rcases List.mem_cons.1 h2 with e | ht
    · rw [e]; rfl
    · rw [totC m a (h4 m ht) h5]; rfl
/-- The k-th of the order: the first of those that are left. -/
theorem srt_next {S : List C2} {k : Nat} {m : C2} (h1 : S.Pairwise fun x y => ltC y x = false) (hm : m ∈ S.drop k) (h : ∀ y ∈ S.drop k, ltC y m = false) : S[k]? = some m := by
  have h1 := h1.sublist (List.drop_sublist k S)
  rw [← Nat.add_zero k, ← List.getElem?_drop]
  cases hs : S.drop k with
  | nil => rw [hs] at hm; cases hm
  | cons a t =>
    rw [hs] at h1 hm h
    obtain ⟨h4, _⟩ := List.pairwise_cons.1 h1
    have h5 := h a (by simp)
    rcases List.mem_cons.1 hm with e | ht
    · rw [e]; rfl
    · rw [totC m a (h4 m ht) h5]; rfl
end Go.Proofs.YtmbpjafiinfkkaaGreatDoor
