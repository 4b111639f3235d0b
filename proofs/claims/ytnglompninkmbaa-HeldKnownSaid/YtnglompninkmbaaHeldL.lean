/- The frames in the order of the document are the frames sorted. -/
import Derived.Test.YtnglompninkmbaaHeldJ
namespace Go.Proofs.Ytnglompninkmbaa
open Go.RowKit Go.Maps

theorem repF_mem {l : List Wr} {g x : Int} (h : x ∈ repF l g) : x = g := by
  unfold repF at h
  rw [List.mem_map] at h
  obtain ⟨y, hy, rfl⟩ := h
  rw [List.mem_filter] at hy
  simpa using hy.2
theorem frTo_lt {l : List Wr} : ∀ {n : Nat} {x : Int}, x ∈ frTo l n → x < n
  | 0, x, h => by simp [frTo] at h
  | n + 1, x, h => by
    rw [frTo, List.mem_append] at h
    rcases h with h | h
    · have := frTo_lt h; omega
    · have := repF_mem h; omega
theorem repF_sorted (l : List Wr) (g : Int) : (repF l g).Pairwise (· ≤ ·) := by
  rw [List.pairwise_iff_getElem]
  intro i j hi hj _
  have h1 := repF_mem (List.getElem_mem hi)
  have h2 := repF_mem (List.getElem_mem hj)
  omega
theorem frTo_sorted (l : List Wr) : ∀ n, (frTo l n).Pairwise (· ≤ ·)
  | 0 => by simp [frTo]
  | n + 1 => by
    rw [frTo, List.pairwise_append]
    refine ⟨frTo_sorted l n, repF_sorted l n, fun a ha b hb => ?_⟩
    have h1 := frTo_lt ha
    have h2 := repF_mem hb
    omega
theorem frTo_perm (l : List Wr) : ∀ n : Nat, (frTo l n).Perm (frs (l.filter (fun x => decide (0 ≤ x.2.1 ∧ x.2.1 < n))))
  | 0 => by
    have : l.filter (fun x => decide (0 ≤ x.2.1 ∧ x.2.1 < ((0 : Nat) : Int))) = [] := by
      rw [List.filter_eq_nil_iff]
      intro x _
      simp
    rw [this]
    exact List.Perm.refl _
  | n + 1 => by
    rw [frTo]
    have ih := frTo_perm l n
    refine (ih.append_right _).trans ?_
    unfold frs repF
    rw [← List.map_append]
    refine List.Perm.map _ ?_
    clear ih
    induction l with
    | nil => exact List.Perm.refl _
    | cons x l ihl =>
      by_cases h1 : 0 ≤ x.2.1 ∧ x.2.1 < (n : Int)
      · rw [List.filter_cons_of_pos (by simpa using h1), List.filter_cons_of_neg (by simp; omega), List.filter_cons_of_pos (by simp; omega)]
        exact ihl.cons _
      · by_cases h2 : x.2.1 = (n : Int)
        · rw [List.filter_cons_of_neg (by simpa using h1), List.filter_cons_of_pos (by simpa using h2), List.filter_cons_of_pos (by simp; omega)]
          exact List.perm_middle.trans (ihl.cons _)
        · rw [List.filter_cons_of_neg (by simpa using h1), List.filter_cons_of_neg (by simpa using h2), List.filter_cons_of_neg (by simp; omega)]
          exact ihl
theorem okW_frame {x : Wr} (h : okW x = true) : 0 ≤ x.2.1 ∧ x.2.1 < 256 := ((okW_iff x).1 h).2.1
theorem frames_eq (l : List Wr) : hfrS l = frmS l := by
  unfold hfrS frmS
  by_cases h : (chkS l).1 ≠ 0
  · rw [if_pos h, if_pos h]
  · rw [if_neg h, if_neg h]
    have hv := chkS_ok.1 (by simpa using h)
    have hp := frTo_perm l 256
    rw [List.filter_eq_self.2 (fun x hx => by have := okW_frame (hv.2.1 x hx); simp; omega)] at hp
    have h1 : (srt (frs l)).Perm (frTo l 256) := (List.mergeSort_perm _ _).trans hp.symm
    have h2 : (srt (frs l)).Pairwise (· ≤ ·) := by
      have := List.pairwise_mergeSort (le := fun x y : Int => decide (x ≤ y)) (fun a b c h1 h2 => by simp at *; omega) (fun a b => by simp; omega) (frs l)
      exact this.imp (fun h => by simpa using h)
    rw [List.Perm.eq_of_pairwise (fun a b _ _ h1 h2 => by omega) h2 (frTo_sorted l 256) h1]
end Go.Proofs.Ytnglompninkmbaa
