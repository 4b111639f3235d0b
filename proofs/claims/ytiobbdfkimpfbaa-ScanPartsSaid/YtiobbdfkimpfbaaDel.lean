/- slices.Delete of one element of a slice that the call owns: the library's contract put into the words of this seat. -/
import Derived.Test.YtiobbdfkimpfbaaIns
import Derived.Shelf.SlicesG.Delete
namespace Go.Proofs.Ytiobbdfkimpfbaa
set_option linter.unusedSimpArgs false
set_option linter.unusedVariables false
open Go.RowKit Go.Maps

theorem blk_put {w : World} {g : Nat} {t : TypeId} {cur : Array Value} (h : Blk w g t cur) (q : Nat) (d : Array Int) :
    Blk (Sort.putRow (Value.int .i64) (Sort.ahead w q) g 0 d) g t (Sort.putCells (Value.int .i64) 0 d cur) := by
  unfold Blk at h ⊢
  simp [Sort.putRow, Sort.mapBlock, Sort.ahead, Array.getElem?_modify, h, Sort.onCells]
theorem put_at {d : Array Int} {cur : Array Value} {j : Nat} (h : j < cur.size) (hd : j < d.size) : (Sort.putCells (Value.int .i64) 0 d cur)[j]? = some (.int .i64 d[j]) := by
  simp [Sort.putCells, h, hd, getElem!_pos]
theorem put_size {d : Array Int} {cur : Array Value} : (Sort.putCells (Value.int .i64) 0 d cur).size = cur.size := by simp [Sort.putCells]
theorem grown_put (w : World) (g q : Nat) (d : Array Int) : w.grownBy (Sort.putRow (Value.int .i64) (Sort.ahead w q) g 0 d) (some g) := by
  refine ⟨rfl, rfl, rfl, by simp [Sort.putRow, Sort.mapBlock, Sort.ahead], fun k _ hne => ?_⟩
  have : g ≠ k := fun e => hne (by rw [e])
  simp [Sort.putRow, Sort.mapBlock, Sort.ahead, Array.getElem?_modify, this]

theorem delPost {w : World} {base g i : Nat} {cur : Array Value} {xs : List Int} (hh : Blk w g 3 cur) (hbg : base ≤ g) (hs : xs.length ≤ cur.size) (hm : cur.size ≤ maxLen)
    (hi : i < xs.length) (q : Nat) :
    RowPost 3 (.int .i64) base (.slice (some ⟨g, 0, none⟩) xs.length cur.size) (xs.eraseIdx i) w (.returned (.slice (some ⟨g, 0, none⟩) (xs.length - (i + 1 - i)) cur.size))
      (Sort.putRow (Value.int .i64) (Sort.ahead w q) g 0 (xs.take i ++ xs.drop (i + 1) ++ List.replicate (i + 1 - i) 0).toArray) := by
  have he : xs.eraseIdx i = xs.take i ++ xs.drop (i + 1) := List.eraseIdx_eq_take_drop_succ _ _
  have hl : (xs.eraseIdx i).length = xs.length - 1 := List.length_eraseIdx_of_lt hi
  refine RowPost.mk_ (blk_put hh q _) (by rw [hl]; omega) put_size.symm hbg (by rw [put_size, hl]; omega) (by rw [put_size]; exact hm) ?_ (grown_put _ _ _ _) (.inl rfl)
  intro j y hy
  have hj := (List.getElem?_eq_some_iff.1 hy).1
  rw [put_at (by omega) (by simp; omega)]
  rw [he] at hy
  have h2 : (xs.take i ++ xs.drop (i + 1) ++ List.replicate (i + 1 - i) (0 : Int))[j]? = some y := by
    rw [List.getElem?_append_left (by rw [← he]; exact hj)]; exact hy
  obtain ⟨_, h3⟩ := List.getElem?_eq_some_iff.1 h2
  exact congrArg (fun z => some (Value.int .i64 z)) h3
-- at []int

def delRho : Go.Shelf.Ren where
  f := fun n => if n = 45 then 71 else n
  t := fun n => if n = 22 then 22 else if n = 23 then 3 else n
  g := fun n => n
theorem delLays : SlLaysN.n45 Try.prog delRho where
  mixed := by kernel_rfl
  f45 := ⟨Try.f71.name, by kernel_rfl, by kernel_rfl⟩
  a0 := fun _ => by kernel_rfl
  z0 := fun _ => by kernel_rfl
  v0 := fun _ => by kernel_rfl
  t0 := by kernel_rfl
  a3 := fun _ => by kernel_rfl
  z3 := fun _ => by kernel_rfl
  v3 := fun _ => by kernel_rfl
  t3 := by kernel_rfl
  a4 := fun _ => by kernel_rfl
  z4 := fun _ => by kernel_rfl
  v4 := fun _ => by kernel_rfl
  t4 := by kernel_rfl
  a22 := fun _ => by kernel_rfl
  z22 := fun _ => by kernel_rfl
  v22 := fun _ => by kernel_rfl
  t22 := by kernel_rfl
  a23 := fun _ => by kernel_rfl
  z23 := fun _ => by kernel_rfl
  v23 := fun _ => by kernel_rfl
  t23 := by kernel_rfl
  i23 := by kernel_rfl

theorem Delete_any (v : Value) (xs : List Int) (base i : Nat) (ia ja : Int) (w : World) (hia : ia = i) (hja : ja = i + 1) (hown : Own w base 3 (.int .i64) v xs) (hi : i < xs.length) :
    Calls Try.prog 71 #[v, .int .i64 ia, .int .i64 ja] w (RowPost 3 (.int .i64) base v (xs.eraseIdx i) w) := by
  subst hia hja
  rcases hown.form with ⟨rfl, rfl⟩ | ⟨g, cur, rfl, hbg, hh, hs, hm, hc⟩
  · simp at hi
  · have hH : Sort.Holds (Value.int .i64) w g 0 xs.toArray := by
      intro j hj
      have hj' : j < xs.length := by simpa using hj
      refine ⟨?_, hh.frozen_ _⟩
      rw [hh.cell_, Nat.zero_add, hc j xs[j] (List.getElem?_eq_getElem hj')]
      simp [getElem!_pos, hj']
    have h := AnyG.slices_Delete_int delLays g 0 cur.size i (i + 1) xs w hH hs (by unfold maxLen at hm; omega) (by omega) (by omega)
    refine h.mono ?_
    rintro e w' ⟨rfl, q, rfl⟩
    exact delPost hh hbg hs hm hi q


def delRhoL : Go.Shelf.Ren where
  f := fun n => if n = 45 then 80 else n
  t := fun n => if n = 22 then 88 else if n = 23 then 3 else n
  g := fun n => n
theorem delLaysL : SlLaysN.n45 Try.prog delRhoL where
  mixed := by kernel_rfl
  f45 := ⟨Try.f80.name, by kernel_rfl, by kernel_rfl⟩
  a0 := fun _ => by kernel_rfl
  z0 := fun _ => by kernel_rfl
  v0 := fun _ => by kernel_rfl
  t0 := by kernel_rfl
  a3 := fun _ => by kernel_rfl
  z3 := fun _ => by kernel_rfl
  v3 := fun _ => by kernel_rfl
  t3 := by kernel_rfl
  a4 := fun _ => by kernel_rfl
  z4 := fun _ => by kernel_rfl
  v4 := fun _ => by kernel_rfl
  t4 := by kernel_rfl
  a22 := fun _ => by kernel_rfl
  z22 := fun _ => by kernel_rfl
  v22 := fun _ => by kernel_rfl
  t22 := by kernel_rfl
  a23 := fun _ => by kernel_rfl
  z23 := fun _ => by kernel_rfl
  v23 := fun _ => by kernel_rfl
  t23 := by kernel_rfl
  i23 := by kernel_rfl

theorem DeleteL_any (v : Value) (xs : List Int) (base i : Nat) (ia ja : Int) (w : World) (hia : ia = i) (hja : ja = i + 1) (hown : Own w base 3 (.int .i64) v xs) (hi : i < xs.length) :
    Calls Try.prog 80 #[v, .int .i64 ia, .int .i64 ja] w (RowPost 3 (.int .i64) base v (xs.eraseIdx i) w) := by
  subst hia hja
  rcases hown.form with ⟨rfl, rfl⟩ | ⟨g, cur, rfl, hbg, hh, hs, hm, hc⟩
  · simp at hi
  · have hH : Sort.Holds (Value.int .i64) w g 0 xs.toArray := by
      intro j hj
      have hj' : j < xs.length := by simpa using hj
      refine ⟨?_, hh.frozen_ _⟩
      rw [hh.cell_, Nat.zero_add, hc j xs[j] (List.getElem?_eq_getElem hj')]
      simp [getElem!_pos, hj']
    have h := AnyG.slices_Delete_int delLaysL g 0 cur.size i (i + 1) xs w hH hs (by unfold maxLen at hm; omega) (by omega) (by omega)
    refine h.mono ?_
    rintro e w' ⟨rfl, q, rfl⟩
    exact delPost hh hbg hs hm hi q
end Go.Proofs.Ytiobbdfkimpfbaa
