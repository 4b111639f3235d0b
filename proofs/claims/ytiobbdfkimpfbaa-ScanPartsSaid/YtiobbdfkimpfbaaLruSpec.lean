/- Plain laws of two lists of frames and their bits: no program in sight. -/
import Derived.Test.YtiobbdfkimpfbaaMem
namespace Go.Proofs.Ytiobbdfkimpfbaa
set_option linter.unusedSimpArgs false
set_option linter.unusedVariables false

/-- 1 if the number is in the list, else 0. -/
def ind (p : List Int) (x : Int) : Int := if x ∈ p then 1 else 0
theorem ind_yes {p : List Int} {x : Int} (h : x ∈ p) : ind p x = 1 := if_pos h
theorem ind_no {p : List Int} {x : Int} (h : x ∉ p) : ind p x = 0 := if_neg h
theorem ind_snoc {p : List Int} {y : Int} (i : Int) : ind (p ++ [y]) i = if i = y then 1 else ind p i := by
  unfold ind; by_cases h : i = y <;> simp [h]
theorem ind_nil (i : Int) : ind [] i = 0 := rfl

/-- The first fault of a list of frames: out of range (2), or met before (7). -/
def lruScan (n : Nat) (seen : List Int) : List Int → Option Int
  | [] => none
  | f :: t => if 0 ≤ f ∧ f < n then (if f ∈ seen then some 7 else lruScan n (seen ++ [f]) t) else some 2

def lruChk (xs ys : List Int) (rs : List Bool) : Int :=
  if rs.length < 1 ∨ 256 < rs.length then 2 else
  match lruScan rs.length [] (xs ++ ys) with
  | some e => e
  | none => if (List.range rs.length).any (fun k => rs.getD k false && !(xs ++ ys).contains (k : Int)) then 9 else 0

theorem lruScan_append (n : Nat) (seen p q : List Int) (h : lruScan n seen p = none) : lruScan n seen (p ++ q) = lruScan n (seen ++ p) q := by
  induction p generalizing seen with
  | nil => simp
  | cons f t ih =>
    simp only [lruScan, List.cons_append] at h ⊢
    by_cases h1 : 0 ≤ f ∧ f < n
    · rw [if_pos h1] at h ⊢
      by_cases h2 : f ∈ seen
      · rw [if_pos h2] at h; cases h
      · rw [if_neg h2] at h ⊢
        rw [ih _ h, List.append_assoc]; rfl
    · rw [if_neg h1] at h; cases h

/-- A fault at the next frame is the fault of the whole. -/
theorem lruScan_far (n : Nat) (p : List Int) (f : Int) (q : List Int) (h : lruScan n [] p = none) (hf : ¬ (0 ≤ f ∧ f < n)) : lruScan n [] (p ++ f :: q) = some 2 := by
  rw [lruScan_append _ _ _ _ h, lruScan, if_neg hf]
theorem lruScan_met (n : Nat) (p : List Int) (f : Int) (q : List Int) (h : lruScan n [] p = none) (hf : 0 ≤ f ∧ f < n) (hm : f ∈ p) : lruScan n [] (p ++ f :: q) = some 7 := by
  rw [lruScan_append _ _ _ _ h, lruScan, if_pos hf, if_pos (by simpa using hm)]
theorem lruScan_on (n : Nat) (p : List Int) (f : Int) (h : lruScan n [] p = none) (hf : 0 ≤ f ∧ f < n) (hm : f ∉ p) : lruScan n [] (p ++ [f]) = none := by
  rw [lruScan_append _ _ _ _ h, lruScan, if_pos hf, if_neg (by simpa using hm), lruScan]

theorem take_snoc' {α : Type} {l : List α} {k : Nat} {x : α} (h : l[k]? = some x) : l.take (k + 1) = l.take k ++ [x] := by
  obtain ⟨hk, rfl⟩ := List.getElem?_eq_some_iff.1 h
  exact List.take_succ_eq_append_getElem hk
theorem split_at' {α : Type} {l : List α} {k : Nat} {x : α} (h : l[k]? = some x) : l = l.take k ++ x :: l.drop (k + 1) := by
  obtain ⟨hk, rfl⟩ := List.getElem?_eq_some_iff.1 h
  rw [← List.drop_eq_getElem_cons hk, List.take_append_drop]

theorem lruChk_size {xs ys : List Int} {rs : List Bool} (h : rs.length < 1 ∨ 256 < rs.length) : lruChk xs ys rs = 2 := if_pos h
theorem lruChk_scan {xs ys : List Int} {rs : List Bool} {e : Int} (h : ¬ (rs.length < 1 ∨ 256 < rs.length)) (hs : lruScan rs.length [] (xs ++ ys) = some e) : lruChk xs ys rs = e := by
  unfold lruChk; rw [if_neg h, hs]
theorem lruChk_state {xs ys : List Int} {rs : List Bool} {k : Nat} (h : ¬ (rs.length < 1 ∨ 256 < rs.length)) (hs : lruScan rs.length [] (xs ++ ys) = none)
    (hk : rs[k]? = some true) (hn : (k : Int) ∉ xs ++ ys) : lruChk xs ys rs = 9 := by
  unfold lruChk; rw [if_neg h, hs]
  obtain ⟨hl, he⟩ := List.getElem?_eq_some_iff.1 hk
  exact if_pos (List.any_eq_true.2 ⟨k, List.mem_range.2 hl, by simp only [List.getD_eq_getElem?_getD, hk, Option.getD_some, Bool.true_and, Bool.not_eq_true']; simpa using hn⟩)
theorem lruChk_ok {xs ys : List Int} {rs : List Bool} (h : ¬ (rs.length < 1 ∨ 256 < rs.length)) (hs : lruScan rs.length [] (xs ++ ys) = none)
    (hk : ∀ k : Nat, rs[k]? = some true → (k : Int) ∈ xs ++ ys) : lruChk xs ys rs = 0 := by
  unfold lruChk; rw [if_neg h, hs]
  refine if_neg ?_
  rw [List.any_eq_true]
  rintro ⟨k, hl, hh⟩
  rw [List.mem_range] at hl
  simp only [List.getD_eq_getElem?_getD, List.getElem?_eq_getElem hl, Option.getD_some, Bool.and_eq_true, Bool.not_eq_true'] at hh
  have := hk k (by rw [List.getElem?_eq_getElem hl, hh.1])
  rw [← List.contains_iff_mem, hh.2] at this
  cases this

theorem lruScan_sound (n : Nat) (l : List Int) : ∀ seen, lruScan n seen l = none → (∀ x ∈ l, 0 ≤ x ∧ x < n) ∧ l.Nodup ∧ ∀ x ∈ l, x ∉ seen := by
  induction l with
  | nil => intro seen _; simp
  | cons f t ih =>
    intro seen h
    simp only [lruScan] at h
    by_cases h1 : 0 ≤ f ∧ f < n
    · rw [if_pos h1] at h
      by_cases h2 : f ∈ seen
      · rw [if_pos h2] at h; cases h
      · rw [if_neg h2] at h
        obtain ⟨a, b, c⟩ := ih _ h
        refine ⟨?_, ?_, ?_⟩
        · intro x hx
          rcases List.mem_cons.1 hx with rfl | hx
          · exact h1
          · exact a x hx
        · refine List.nodup_cons.2 ⟨fun hf => ?_, b⟩
          exact c f hf (by simp)
        · intro x hx
          rcases List.mem_cons.1 hx with rfl | hx
          · exact h2
          · exact fun hs => c x hx (by simp [hs])
    · rw [if_neg h1] at h; cases h

theorem nodup_len (n : Nat) : ∀ l : List Int, l.Nodup → (∀ x ∈ l, 0 ≤ x ∧ x < n) → l.length ≤ n := by
  induction n with
  | zero =>
    intro l _ h
    cases l with
    | nil => simp
    | cons a t => have := h a (by simp); omega
  | succ n ih =>
    intro l hd h
    by_cases hm : (n : Int) ∈ l
    · have h1 := ih (l.erase (n : Int)) (hd.erase _) (fun x hx => by
        have h2 := h x (List.mem_of_mem_erase hx)
        have h3 : x ≠ n := by rintro rfl; exact (List.Nodup.not_mem_erase hd) hx
        omega)
      rw [List.length_erase_of_mem hm] at h1
      omega
    · have := ih l hd (fun x hx => by
        have h2 := h x hx
        have h3 : x ≠ n := by rintro rfl; exact hm hx
        omega)
      omega

/-- What valid lists are. -/
structure Valid (xs ys : List Int) (rs : List Bool) : Prop where
  lo : 1 ≤ rs.length
  hi : rs.length ≤ 256
  range : ∀ x ∈ xs ++ ys, 0 ≤ x ∧ x < rs.length
  nodup : (xs ++ ys).Nodup
  len : xs.length + ys.length ≤ rs.length
  refs : ∀ k : Nat, rs[k]? = some true → (k : Int) ∈ xs ++ ys

theorem valid_of_chk {xs ys : List Int} {rs : List Bool} (h : lruChk xs ys rs = 0) : Valid xs ys rs := by
  by_cases h1 : rs.length < 1 ∨ 256 < rs.length
  · rw [lruChk_size h1] at h; cases h
  · cases hs : lruScan rs.length [] (xs ++ ys) with
    | some e =>
      rw [lruChk_scan h1 hs] at h
      subst h
      exfalso
      have : ∀ (l seen : List Int), lruScan rs.length seen l ≠ some 0 := by
        intro l
        induction l with
        | nil => intro seen; simp [lruScan]
        | cons f t ih => intro seen; simp only [lruScan]; split <;> (try split) <;> simp [ih]
      exact this _ _ hs
    | none =>
      obtain ⟨a, b, _⟩ := lruScan_sound _ _ _ hs
      refine ⟨by omega, by omega, a, b, ?_, ?_⟩
      · have := nodup_len rs.length _ b a; simpa using this
      · intro k hk
        by_cases hm : (k : Int) ∈ xs ++ ys
        · exact hm
        · rw [lruChk_state h1 hs hk hm] at h; cases h
end Go.Proofs.Ytiobbdfkimpfbaa
