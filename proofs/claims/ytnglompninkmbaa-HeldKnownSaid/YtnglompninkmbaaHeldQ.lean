/- What the map of a list of writes says, in plain words. -/
import Derived.Test.YtnglompninkmbaaHeldP
namespace Go.Proofs.Ytnglompninkmbaa
open Go.RowKit Go.Maps

/-- The map of a list, from the number i on. -/
def mapFrom (i : Nat) : List Wr → List ((Int × Int) × Int)
  | [] => []
  | x :: l => (keysOf x.1 x.2.1 x.2.2).map (fun k => (k, (i : Int))) ++ mapFrom (i + 1) l
def mapOf (l : List Wr) : List ((Int × Int) × Int) := mapFrom 0 l
theorem mapFrom_snoc (x : Wr) : ∀ (l : List Wr) (i : Nat), mapFrom i (l ++ [x]) = addM (mapFrom i l) x.1 x.2.1 x.2.2 ((i + l.length : Nat) : Int)
  | [], i => by simp [mapFrom, addM]
  | y :: l, i => by
    rw [List.cons_append, mapFrom, mapFrom_snoc x l (i + 1), mapFrom]
    unfold addM
    simp [Nat.add_assoc, Nat.add_comm 1]
theorem mapOf_snoc (x : Wr) (l : List Wr) : mapOf (l ++ [x]) = addM (mapOf l) x.1 x.2.1 x.2.2 l.length := by
  unfold mapOf
  rw [mapFrom_snoc]
  simp

theorem lookup_keys (x : Wr) (i : Int) (k : Int × Int) : ((keysOf x.1 x.2.1 x.2.2).map (fun k => (k, i))).lookup k = if k ∈ keysOf x.1 x.2.1 x.2.2 then some i else none := by
  generalize keysOf x.1 x.2.1 x.2.2 = ks
  induction ks with
  | nil => simp
  | cons a ks ih =>
    rw [List.map_cons, List.lookup_cons]
    by_cases h : k = a
    · simp [h]
    · have : (k == a) = false := by simpa using h
      rw [this]
      simp only [ih, List.mem_cons, h, false_or]
theorem look_from (k : Int × Int) (p : Wr → Bool) (hp : ∀ x : Wr, p x = decide (k ∈ keysOf x.1 x.2.1 x.2.2)) : ∀ (l : List Wr) (i : Nat), (mapFrom i l).lookup k = (l.findIdx? p).map (fun j => ((i + j : Nat) : Int))
  | [], i => by simp [mapFrom]
  | x :: l, i => by
    rw [mapFrom, List.lookup_append, lookup_keys, List.findIdx?_cons, look_from k p hp l (i + 1), hp x]
    by_cases h : k ∈ keysOf x.1 x.2.1 x.2.2
    · simp [h]
    · simp only [h, if_false, decide_false, Option.none_or, Bool.false_eq_true, Option.map_map]
      congr 1
      funext j
      simp only [Function.comp]
      congr 1
      omega
theorem look_slot (s : Int) (l : List Wr) : (mapOf l).lookup (1, s) = (l.findIdx? (fun x => decide (x.1 = s))).map (β := Int) (fun j : Nat => (j : Int)) := by
  unfold mapOf
  rw [look_from (1, s) (fun x => decide (x.1 = s)) (fun x => by
    unfold keysOf
    by_cases h : x.1 = s
    · simp [h]
    · have : s ≠ x.1 := fun e => h e.symm
      split <;> simp [h, this])]
  simp
theorem look_frame (s : Int) (l : List Wr) : (mapOf l).lookup (2, s) = (l.findIdx? (fun x => decide (x.2.1 = s))).map (β := Int) (fun j : Nat => (j : Int)) := by
  unfold mapOf
  rw [look_from (2, s) (fun x => decide (x.2.1 = s)) (fun x => by
    unfold keysOf
    by_cases h : x.2.1 = s
    · simp [h]
    · have : s ≠ x.2.1 := fun e => h e.symm
      split <;> simp [h, this])]
  simp
theorem look_claim {s : Int} (hs : s ≠ 0) (l : List Wr) : (mapOf l).lookup (3, s) = (l.findIdx? (fun x => decide (x.2.2 = s))).map (β := Int) (fun j : Nat => (j : Int)) := by
  unfold mapOf
  rw [look_from (3, s) (fun x => decide (x.2.2 = s)) (fun x => by
    unfold keysOf
    by_cases h : x.2.2 = s
    · rw [if_neg (by omega)]; simp [h]
    · have : s ≠ x.2.2 := fun e => h e.symm
      split <;> simp [h, this])]
  simp

/-- An earlier write has the same slot, frame, or claim. -/
def hit (pre : List Wr) (x : Wr) : Bool := pre.any fun y => decide (y.1 = x.1) || (decide (y.2.1 = x.2.1) || (decide (x.2.2 ≠ 0) && decide (y.2.2 = x.2.2)))
theorem isSome_findIdx {p : Wr → Bool} {l : List Wr} : (l.findIdx? p).isSome = l.any p := by simp
theorem any_or (p q : Wr → Bool) (l : List Wr) : (l.any fun y => p y || q y) = (l.any p || l.any q) := by
  induction l with
  | nil => rfl
  | cons a l ih => simp only [List.any_cons, ih]; cases p a <;> cases q a <;> simp
theorem any_and (b : Bool) (q : Wr → Bool) (l : List Wr) : (l.any fun y => b && q y) = (b && l.any q) := by
  cases b <;> simp
theorem clash_hit (l : List Wr) (x : Wr) : clashM (mapOf l) x.1 x.2.1 x.2.2 = hit l x := by
  unfold clashM hit
  rw [any_or, any_or, any_and]
  unfold keysOf
  by_cases h : x.2.2 = 0
  · simp only [h, if_true, List.append_nil, List.any_cons, List.any_nil, look_slot, look_frame, Option.isSome_map, isSome_findIdx]
    simp
  · simp only [h, if_false, List.cons_append, List.nil_append, List.any_cons, List.any_nil, look_slot, look_frame, look_claim h, Option.isSome_map, isSome_findIdx]
    simp [h]

/-- Check in plain words. -/
def chkG (pre : List Wr) : List Wr → Int × Nat
  | [] => (0, 0)
  | x :: l => if okW x then (if hit pre x then (7, pre.length) else chkG (pre ++ [x]) l) else (2, pre.length)
def chkS (l : List Wr) : Int × Nat := if 16 < l.length then (5, 0) else chkG [] l
theorem read_chk : ∀ (l pre : List Wr), readG (mapOf pre) pre.length l = ((chkG pre l).1, (chkG pre l).2, if (chkG pre l).1 = 0 then mapOf (pre ++ l) else [])
  | [], pre => by simp [readG, chkG]
  | x :: l, pre => by
    rw [readG, chkG, clash_hit]
    by_cases h1 : okW x
    · by_cases h2 : hit pre x
      · simp [h1, h2]
      · rw [if_pos h1, if_neg h2, if_pos h1, if_neg h2]
        have := read_chk l (pre ++ [x])
        rw [mapOf_snoc] at this
        simp only [List.length_append, List.length_cons, List.length_nil, Nat.zero_add, List.append_assoc, List.cons_append, List.nil_append] at this
        exact this
    · simp [h1]
theorem readS_chk (l : List Wr) : readS l = ((chkS l).1, (chkS l).2, if (chkS l).1 = 0 then mapOf l else []) := by
  unfold readS chkS
  by_cases h : 16 < l.length
  · simp [h]
  · rw [if_neg h, if_neg h]
    have := read_chk l []
    simpa [mapOf, mapFrom] using this

/-- What read hands back, in plain words. -/
theorem ReadPost.plain {l : List Wr} {w w' : World} {e : Ending} (h : ReadPost l w e w') :
    Below w.heap.size w w' ∧ ((chkS l).1 ≠ 0 ∧ e = .returned (.tuple #[.map none, .int .i64 (chkS l).1, .int .i64 (chkS l).2]) ∨
      (chkS l).1 = 0 ∧ ∃ B, w.heap.size ≤ B ∧ e = .returned (.tuple #[.map (some B), .int .i64 0, .int .i64 (chkS l).2]) ∧ MapK w' B (mapOf l)) := by
  unfold ReadPost at h
  rw [readS_chk] at h
  obtain ⟨hb, B, hB, he, hm⟩ := h
  refine ⟨hb, ?_⟩
  by_cases h0 : (chkS l).1 = 0
  · refine .inr ⟨h0, B, hB, ?_, ?_⟩
    · rw [he]; simp [h0]
    · have := hm h0
      simpa [h0] using this
  · refine .inl ⟨h0, ?_⟩
    rw [he]; simp [h0]
end Go.Proofs.Ytnglompninkmbaa
