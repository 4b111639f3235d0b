/- OomSums: the plain law. No statement is proved here. -/
import Derived.Test.YtmbpjafiinfkkaaGreatDoorOW5
namespace Go.Proofs.YtmbpjafiinfkkaaGreatDoor
set_option linter.unusedSimpArgs false
set_option linter.unusedVariables false
open Go.RowKit Go.Maps

/-- The frames that live ones of the first i map. -/
def frsB (l : List PV) (i : Nat) (n : Nat) : Bool := (l.take i).any fun p => decide (p.st ≠ 0) && decide ((n : Int) ∈ frmL p.es)
def cntF (g : Nat → Bool) : Nat := ((List.range 256).filter g).length
/-- An array of 256 booleans. -/
def frB (g : Nat → Bool) : Array Value := ((List.range 256).map fun n => Value.bool (g n)).toArray
theorem frB_size (g : Nat → Bool) : (frB g).size = 256 := by simp [frB]
theorem frB_at (g : Nat → Bool) {m : Nat} (h : m < 256) : (frB g)[m]? = some (.bool (g m)) := by
  unfold frB
  rw [List.getElem?_toArray, List.getElem?_map, List.getElem?_range h]
  rfl
theorem frB_set (g : Nat → Bool) (m : Nat) : (frB g).setIfInBounds m (.bool true) = frB (fun n => g n || n == m) := by
  unfold frB
  rw [List.setIfInBounds_toArray]
  congr 1
  apply List.ext_getElem?
  intro i
  by_cases h : m = i
  · subst h
    by_cases hm : m < 256
    · rw [List.getElem?_set_self (by simpa using hm), List.getElem?_map, List.getElem?_range hm]
      simp
    · rw [List.getElem?_eq_none (by simp; omega), List.getElem?_eq_none (by simp; omega)]
  · rw [List.getElem?_set_ne h, List.getElem?_map, List.getElem?_map]
    by_cases hi : i < 256
    · rw [List.getElem?_range hi]
      have : (i == m) = false := by simpa using Ne.symm h
      simp [this]
    · rw [List.getElem?_eq_none (by simp; omega)]
      rfl
theorem frB_congr {g g' : Nat → Bool} (h : ∀ n, n < 256 → g n = g' n) : frB g = frB g' := by
  unfold frB
  congr 1
  exact List.map_congr_left fun n hn => by rw [h n (List.mem_range.1 hn)]
theorem frsB_zero (l : List PV) : frsB l 0 = fun _ => false := by funext n; simp [frsB]
theorem frsB_dead {l : List PV} {i : Nat} {p : PV} (hp : l[i]? = some p) (h0 : p.st = 0) : frsB l (i + 1) = frsB l i := by
  funext n
  unfold frsB
  rw [take_snocG hp, List.any_append]
  simp [h0]
theorem frsB_live {l : List PV} {i : Nat} {p : PV} (hp : l[i]? = some p) (h0 : p.st ≠ 0) (n : Nat) : frsB l (i + 1) n = (frsB l i n || decide ((n : Int) ∈ frmL p.es)) := by
  unfold frsB
  rw [take_snocG hp, List.any_append]
  simp [h0]
theorem cnt_add {P Q R : Nat → Bool} (h1 : ∀ n, P n = true → R n = true) (h2 : ∀ n, Q n = true → R n = true) (h3 : ∀ n, P n = true → Q n = true → False) : ∀ l : List Nat, (l.filter P).length + (l.filter Q).length ≤ (l.filter R).length
  | [] => by simp
  | x :: l => by
    have ih := cnt_add h1 h2 h3 l
    cases hP : P x <;> cases hQ : Q x
    · rw [List.filter_cons_of_neg (by simp [hP]), List.filter_cons_of_neg (by simp [hQ])]
      exact Nat.le_trans ih (by cases hR : R x <;> simp [hR])
    · rw [List.filter_cons_of_neg (by simp [hP]), List.filter_cons_of_pos hQ, List.filter_cons_of_pos (h2 x hQ)]
      simp only [List.length_cons]; omega
    · rw [List.filter_cons_of_pos hP, List.filter_cons_of_neg (by simp [hQ]), List.filter_cons_of_pos (h1 x hP)]
      simp only [List.length_cons]; omega
    · exact (h3 x hP hQ).elim
/-- The frames that one process alone maps are new. -/
theorem cnt_step {l : List PV} {i : Nat} {p : PV} (hp : l[i]? = some p) (h0 : p.st ≠ 0) : cntF (frsB l i) + (aloneL l i).length ≤ cntF (frsB l (i + 1)) := by
  have e : (aloneL l i).length = ((List.range 256).filter fun (n : Nat) => decide (aloneP l i l.length (n : Int))).length := by
    unfold aloneL
    rw [List.filter_map, List.length_map]
    rfl
  rw [e]
  unfold cntF
  refine cnt_add (fun n h => ?_) (fun n h => ?_) (fun n h h' => ?_) _
  · rw [frsB_live hp h0, h]; rfl
  · have := of_decide_eq_true h
    rw [frsB_live hp h0, decide_eq_true (p := (n : Int) ∈ frmL p.es) (by rw [← frmAt_some hp]; exact this.1)]
    simp
  · have ha := of_decide_eq_true h'
    unfold frsB at h
    rw [List.any_eq_true] at h
    obtain ⟨q, hq, hm⟩ := h
    rw [Bool.and_eq_true] at hm
    obtain ⟨j, hj, e⟩ := List.mem_iff_getElem.1 hq
    have hji : j < i ∧ j < l.length := by simp at hj; omega
    have hlj : l[j]? = some q := by
      rw [← e, List.getElem_take]
      exact List.getElem?_eq_getElem hji.2
    exact ha.2 j hji.2 (by omega) (by rw [frmAt_some hlj]; exact of_decide_eq_true hm.2)
theorem cntF_le (g : Nat → Bool) : cntF g ≤ 256 := Nat.le_trans (List.length_filter_le _ _) (by simp)
/-- What a process yields. -/
theorem yld_live {l : List PV} {i : Nat} {p : PV} (hs : scrE l = 0) (hp : l[i]? = some p) (h0 : p.st ≠ 0) (hr : p.root ≠ -1) : yldE l ((i : Int) + 1) = 0 ∧ yldI l ((i : Int) + 1) = (((aloneL l i).length + (1 + lvsN p.lv) : Nat) : Int) := by
  have hi := (List.getElem?_eq_some_iff.1 hp).1
  have em : ((i : Int) + 1 - 1).toNat = i := by omega
  have e0 : yldE l ((i : Int) + 1) = 0 := by
    unfold yldE
    rw [if_pos hs, if_neg (by omega), em, hp]
    simp [h0]
  refine ⟨e0, ?_⟩
  unfold yldI
  rw [if_pos e0, em, hp]
  simp only
  unfold tblN
  rw [if_neg hr]
theorem yld_dead {l : List PV} {i : Nat} {p : PV} (hs : scrE l = 0) (hp : l[i]? = some p) (h0 : p.st = 0) : yldE l ((i : Int) + 1) = 11 ∧ yldI l ((i : Int) + 1) = 0 := by
  have hi := (List.getElem?_eq_some_iff.1 hp).1
  have em : ((i : Int) + 1 - 1).toNat = i := by omega
  have e0 : yldE l ((i : Int) + 1) = 11 := by
    unfold yldE
    rw [if_pos hs, if_neg (by omega), em, hp]
    simp [h0]
  refine ⟨e0, ?_⟩
  unfold yldI
  rw [e0]; rfl
theorem cnt_next (g : Nat → Bool) (i : Nat) : ((List.range (i + 1)).filter g).length = ((List.range i).filter g).length + if g i then 1 else 0 := by
  rw [List.range_succ, List.filter_append, List.length_append]
  congr 1
  cases h : g i <;> simp [h]
theorem zc256 : Tryz.zeroCells61 = frB (fun _ => false) := by kernel_rfl
/-- A word that is an entry, unpacked by entry.Unpack. -/
theorem unpack_ok (x : Nat) (w : World) (hal : AL w) (hx : x < 18446744073709551616) (h : unpE x = 0) : Calls Tryz.prog 39 #[.int .u64 (x : Int)] w fun e w' => e = .returned (.tuple #[.agg #[.int .i64 (eK x), .int .i64 (eN x), .bool (eA x), .bool (eB x), .bool (eC x)], .int .i64 0]) ∧ Below w.heap.size w w' := by
  have := Unpack_any x w hal hx
  unfold unpV entV at this
  rw [h, if_pos rfl] at this
  exact this
end Go.Proofs.YtmbpjafiinfkkaaGreatDoor
