/- Valid lists of writes, in plain words: what Check accepts, and what Add and Remove make of such a list. -/
import Derived.Test.YtnglompninkmbaaHeldF
namespace Go.Proofs.Ytnglompninkmbaa
open Go.RowKit Go.Maps

/-- Two writes that may stand in one list, the first one earlier. -/
def apart (x y : Wr) : Prop := x.1 ≠ y.1 ∧ x.2.1 ≠ y.2.1 ∧ (y.2.2 = 0 ∨ x.2.2 ≠ y.2.2)
theorem hit_apart {pre : List Wr} {x : Wr} : hit pre x = false ↔ ∀ y ∈ pre, apart y x := by
  unfold hit apart
  rw [List.any_eq_false]
  constructor
  · intro h y hy
    have := h y hy
    simp only [Bool.or_eq_true, decide_eq_true_eq, Bool.and_eq_true, not_or] at this
    refine ⟨this.1, this.2.1, ?_⟩
    by_cases h0 : x.2.2 = 0
    · exact .inl h0
    · exact .inr (fun e => this.2.2 ⟨h0, e⟩)
  · intro h y hy
    obtain ⟨h1, h2, h3⟩ := h y hy
    simp only [Bool.or_eq_true, decide_eq_true_eq, Bool.and_eq_true, not_or]
    refine ⟨h1, h2, fun ⟨a, b⟩ => ?_⟩
    rcases h3 with h3 | h3
    · exact a h3
    · exact h3 b
theorem chkG_ok : ∀ (l pre : List Wr), (chkG pre l).1 = 0 ↔ (∀ x ∈ l, okW x = true) ∧ l.Pairwise apart ∧ ∀ x ∈ l, ∀ y ∈ pre, apart y x
  | [], pre => by simp [chkG]
  | x :: l, pre => by
    rw [chkG]
    by_cases h1 : okW x = true
    · rw [if_pos h1]
      cases h2 : hit pre x with
      | true =>
        simp only [if_true]
        constructor
        · intro h; simp at h
        · rintro ⟨_, _, h⟩
          have := hit_apart.2 (h x (by simp))
          rw [h2] at this; cases this
      | false =>
        simp only [Bool.false_eq_true, if_false]
        rw [chkG_ok l (pre ++ [x])]
        have h3 := hit_apart.1 h2
        simp only [List.mem_cons, forall_eq_or_imp, List.pairwise_cons, List.mem_append, List.not_mem_nil, or_false]
        constructor
        · rintro ⟨a, b, c⟩
          exact ⟨⟨h1, a⟩, ⟨fun y hy => c y hy x (.inr rfl), b⟩, h3, fun y hy z hz => c y hy z (.inl hz)⟩
        · rintro ⟨⟨_, a⟩, ⟨b, b'⟩, _, c⟩
          refine ⟨a, b', fun y hy z hz => ?_⟩
          rcases hz with hz | rfl
          · exact c y hy z hz
          · exact b y hy
    · rw [if_neg h1]
      constructor
      · intro h; simp at h
      · rintro ⟨h, _⟩
        exact absurd (h x (by simp)) h1
theorem chkG_num : ∀ (l pre : List Wr), (chkG pre l).1 = 0 → (chkG pre l).2 = 0
  | [], pre => by simp [chkG]
  | x :: l, pre => by
    rw [chkG]
    split
    · split
      · simp
      · exact chkG_num l _
    · simp
/-- A list that Check accepts. -/
def Valid (l : List Wr) : Prop := l.length ≤ 16 ∧ (∀ x ∈ l, okW x = true) ∧ l.Pairwise apart
theorem chkS_ok {l : List Wr} : (chkS l).1 = 0 ↔ Valid l := by
  unfold chkS Valid
  by_cases h : 16 < l.length
  · rw [if_pos h]
    constructor
    · intro h; simp at h
    · intro ⟨h', _⟩; omega
  · rw [if_neg h, chkG_ok]
    simp
    omega
theorem chkS_zero {l : List Wr} (h : Valid l) : chkS l = (0, 0) := by
  have h1 := chkS_ok.2 h
  refine Prod.ext h1 ?_
  unfold chkS at h1 ⊢
  rw [if_neg (by have := h.1; omega)] at h1 ⊢
  exact chkG_num _ _ h1

/-- Add: the list, the error. -/
def addS (l : List Wr) (s f : Int) : List Wr × Int :=
  if (chkS l).1 ≠ 0 then ([], (chkS l).1) else if (0 ≤ s ∧ s < 256) ∧ (0 ≤ f ∧ f < 256) then (if hit l (s, f, 0) then ([], 7) else if 16 ≤ l.length then ([], 5) else (l ++ [(s, f, 0)], 0)) else ([], 2)
/-- Remove: the list, the write, the error. -/
def remS (l : List Wr) (s : Int) : List Wr × Wr × Int :=
  if (findS l s).2 = 0 then (l.take (findS l s).1 ++ l.drop ((findS l s).1 + 1), l.getD (findS l s).1 (0, 0, 0), 0) else ([], (0, 0, 0), (findS l s).2)

theorem findIdx_at {l : List Wr} {i : Nat} {x : Wr} (hv : l.Pairwise apart) (hx : l[i]? = some x) : l.findIdx? (fun z => decide (z.1 = x.1)) = some i := by
  obtain ⟨hi, rfl⟩ := List.getElem?_eq_some_iff.1 hx
  rw [List.findIdx?_eq_some_iff_getElem]
  refine ⟨hi, by simp, fun j hj => ?_⟩
  have := (List.pairwise_iff_getElem.1 hv) j i (by omega) hi hj
  simpa using this.1
theorem okW_slot {x : Wr} (h : okW x = true) : 0 ≤ x.1 ∧ x.1 < 256 := by
  unfold okW at h
  simp only [Bool.and_eq_true, decide_eq_true_eq] at h
  exact h.1
theorem findS_at {l : List Wr} {i : Nat} {x : Wr} (hv : Valid l) (hx : l[i]? = some x) : findS l x.1 = (i, 0) := by
  have hm : x ∈ l := List.mem_of_getElem? hx
  unfold findS
  rw [if_neg (by rw [chkS_zero hv]; simp), if_pos (okW_slot (hv.2.1 x hm)), findIdx_at hv.2.2 hx]
theorem cut_filter {l : List Wr} {i : Nat} {x : Wr} (hv : l.Pairwise apart) (hx : l[i]? = some x) : l.take i ++ l.drop (i + 1) = l.filter (fun z => decide (z.1 ≠ x.1)) := by
  obtain ⟨hi, hy⟩ := List.getElem?_eq_some_iff.1 hx
  have e : l.take i ++ x :: l.drop (i + 1) = l := by rw [← hy, ← List.drop_eq_getElem_cons hi, List.take_append_drop]
  generalize l.take i = p at e ⊢
  generalize l.drop (i + 1) = q at e ⊢
  subst e
  rw [List.pairwise_append] at hv
  obtain ⟨_, h2, h3⟩ := hv
  rw [List.pairwise_cons] at h2
  rw [List.filter_append, List.filter_cons_of_neg (by simp), List.filter_eq_self.2 (fun z hz => ?_), List.filter_eq_self.2 (fun z hz => ?_)]
  · have := (h2.1 z hz).1
    simpa using fun e => this e.symm
  · have := (h3 z hz x (by simp)).1
    simpa using this
theorem remS_at {l : List Wr} {i : Nat} {x : Wr} (hv : Valid l) (hx : l[i]? = some x) : remS l x.1 = (l.filter (fun z => decide (z.1 ≠ x.1)), x, 0) := by
  unfold remS
  rw [findS_at hv hx, if_pos rfl, cut_filter hv.2.2 hx, List.getD_eq_getElem?_getD, hx]
  rfl
theorem Valid.sub {l k : List Wr} (h : Valid l) (hs : k.Sublist l) : Valid k :=
  ⟨Nat.le_trans hs.length_le h.1, fun x hx => h.2.1 x (hs.subset hx), h.2.2.sublist hs⟩
theorem rem_len {l : List Wr} {i : Nat} {x : Wr} (hv : Valid l) (hx : l[i]? = some x) : (l.filter (fun z => decide (z.1 ≠ x.1))).length = l.length - 1 := by
  have hi := (List.getElem?_eq_some_iff.1 hx).1
  rw [← cut_filter hv.2.2 hx]
  simp
  omega

/-- The write number i of the lists made of numbers. -/
def wrOf (i : Nat) (n : Int) : Wr := ((11 * i + 3) % 48, (13 * i + 7) % 64, if n % 1048576 % 3 = 0 ∧ i < 8 then 1 + (3 * i + 1) % 8 else 0)
def madeFrom (i : Nat) : List Int → List Wr
  | [] => []
  | n :: ns => wrOf i n :: madeFrom (i + 1) ns
def madeS (nums : List Int) : List Wr := madeFrom 0 (nums.take 16)
theorem madeFrom_length : ∀ (l : List Int) (i : Nat), (madeFrom i l).length = l.length
  | [], _ => rfl
  | _ :: l, i => by simp [madeFrom, madeFrom_length l]
theorem madeFrom_snoc (n : Int) : ∀ (l : List Int) (i : Nat), madeFrom i (l ++ [n]) = madeFrom i l ++ [wrOf (i + l.length) n]
  | [], i => by simp [madeFrom]
  | m :: l, i => by simp [madeFrom, madeFrom_snoc n l, Nat.add_assoc, Nat.add_comm 1]
theorem madeFrom_mem {x : Wr} : ∀ {l : List Int} {i : Nat}, x ∈ madeFrom i l → ∃ j n, i ≤ j ∧ j < i + l.length ∧ x = wrOf j n
  | [], i, h => by simp [madeFrom] at h
  | n :: l, i, h => by
    rcases List.mem_cons.1 h with rfl | h
    · exact ⟨i, n, Nat.le_refl _, by simp, rfl⟩
    · obtain ⟨j, m, h1, h2, h3⟩ := madeFrom_mem h
      exact ⟨j, m, by omega, by simp; omega, h3⟩
theorem wrOf_ok (i : Nat) (n : Int) : okW (wrOf i n) = true := by
  unfold okW wrOf
  simp only [Bool.and_eq_true, Bool.or_eq_true, decide_eq_true_eq]
  refine ⟨by omega, by omega, ?_⟩
  split
  · right; omega
  · left; rfl
theorem wrOf_apart {i j : Nat} (n m : Int) (h : i < j) (hj : j < 16) : apart (wrOf i n) (wrOf j m) := by
  unfold apart wrOf
  refine ⟨by simp only; omega, by simp only; omega, ?_⟩
  simp only
  split
  · right
    split <;> omega
  · left; rfl
theorem madeFrom_apart : ∀ (l : List Int) (i : Nat), i + l.length ≤ 16 → (madeFrom i l).Pairwise apart
  | [], _, _ => List.Pairwise.nil
  | n :: l, i, h => by
    simp only [List.length_cons] at h
    refine List.Pairwise.cons (fun y hy => ?_) (madeFrom_apart l (i + 1) (by omega))
    obtain ⟨j, m, h1, h2, rfl⟩ := madeFrom_mem hy
    exact wrOf_apart n m (by omega) (by omega)
theorem madeS_length (nums : List Int) : (madeS nums).length = min 16 nums.length := by simp [madeS, madeFrom_length]
theorem made_valid (nums : List Int) : Valid (madeS nums) := by
  refine ⟨by rw [madeS_length]; omega, fun x hx => ?_, ?_⟩
  · obtain ⟨j, n, _, _, rfl⟩ := madeFrom_mem hx
    exact wrOf_ok j n
  · exact madeFrom_apart _ 0 (by simp; omega)
end Go.Proofs.Ytnglompninkmbaa
