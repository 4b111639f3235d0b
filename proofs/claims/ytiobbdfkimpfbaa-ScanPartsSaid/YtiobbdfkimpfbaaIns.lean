/- slices.Insert at the beginning of a slice of ints that the call owns, one value: the library's contracts put into the words of this seat. -/
import Derived.Test.YtiobbdfkimpfbaaSlices
import Derived.Shelf.Spec.SlicesInsert
import Derived.Shelf.Spec.SlicesInsertGrow
namespace Go.Proofs.Ytiobbdfkimpfbaa
set_option linter.unusedSimpArgs false
set_option linter.unusedVariables false
open Go.RowKit Go.Maps

def insRho : Go.Shelf.Ren where
  f := fun n => if n = 21 then 98 else if n = 27 then 106 else if n = 28 then 107 else if n = 35 then 109 else 110
  t := fun n => if n = 22 then 22 else n
  g := fun n => n

theorem insLays : Lays2.n21 Try.prog insRho where
  mixed := by kernel_rfl
  f21 := by kernel_rfl
  f27 := by kernel_rfl
  f28 := by kernel_rfl
  f35 := by kernel_rfl
  f39 := by kernel_rfl
  t0 := by kernel_rfl
  a0 := fun _ => by kernel_rfl
  z0 := fun _ => by kernel_rfl
  v0 := fun _ => by kernel_rfl
  t3 := by kernel_rfl
  a3 := fun _ => by kernel_rfl
  z3 := fun _ => by kernel_rfl
  v3 := fun _ => by kernel_rfl
  t4 := by kernel_rfl
  a4 := fun _ => by kernel_rfl
  z4 := fun _ => by kernel_rfl
  v4 := fun _ => by kernel_rfl
  t22 := by kernel_rfl
  a22 := fun _ => by kernel_rfl
  z22 := fun _ => by kernel_rfl
  v22 := fun _ => by kernel_rfl
  i3 := by kernel_rfl

/-- What an insertion or a deletion in a row of the call's own leaves. -/
def RowPost {α : Type} (E : TypeId) (mk : α → Value) (base : Nat) (v : Value) (ys : List α) (w : World) (e : Ending) (w' : World) : Prop :=
  ∃ A c, e = .returned (.slice A ys.length c) ∧ Own w' base E mk (.slice A ys.length c) ys ∧ w.grownBy w' v.ownBlock ∧
    ((Value.slice A ys.length c).ownBlock = v.ownBlock ∨ ∃ g, (Value.slice A ys.length c).ownBlock = some g ∧ w.heap.size ≤ g)

theorem RowPost.mk_ {α : Type} {E : TypeId} {mk : α → Value} {base : Nat} {v : Value} {ys : List α} {w w' : World} {g n c : Nat} {cur : Array Value} (hB : Blk w' g E cur) (hn : n = ys.length) (hc : c = cur.size) (hbg : base ≤ g)
    (hs : ys.length ≤ cur.size) (hm : cur.size ≤ maxLen) (hx : ∀ (j : Nat) x, ys[j]? = some x → cur[j]? = some (mk x)) (hg : w.grownBy w' v.ownBlock) (hl : some g = v.ownBlock ∨ w.heap.size ≤ g) :
    RowPost E mk base v ys w (.returned (.slice (some ⟨g, 0, none⟩) n c)) w' := by
  subst hn hc
  refine ⟨_, _, rfl, Own.of_blk hB hbg hs hm hx, hg, ?_⟩
  rcases hl with h | h
  · exact .inl h
  · exact .inr ⟨g, rfl, h⟩
theorem zeroCells_size (z : Value) (n : Nat) (h : z.cells.size = 1) : (Builtin.zeroCells z.cells n).size = n := by simp [Builtin.zeroCells, h]

set_option maxHeartbeats 400000 in
theorem Insert0_any (v : Value) (xs : List Int) (x : Int) (base vb : Nat) (w : World) (hown : Own w base 3 (.int .i64) v xs) (hb : base ≤ w.heap.size) (hn : xs.length ≤ 100000)
    (hv : Blk w vb 3 #[.int .i64 x]) (hne : v.ownBlock ≠ some vb) :
    Calls Try.prog 98 #[v, .int .i64 0, .slice (some ⟨vb, 0, none⟩) 1 1] w (RowPost 3 (.int .i64) base v (x :: xs) w) := by
  have hvs : ∀ j u, ([Value.int .i64 x] : List Value)[j]? = some u → w.cell? ⟨vb, 0 + j, none⟩ = some u := by
    intro j u hu
    rw [hv.cell_, Nat.zero_add]
    simpa using hu
  have h1v : ∀ u ∈ ([Value.int .i64 x] : List Value), u.oneCell' = true := by simp [Value.oneCell']
  have zs := zeroCells_size (.int .i64 0)
  rcases hown.form with ⟨rfl, rfl⟩ | ⟨g, cur, rfl, hbg, hh, hs, hm, hc⟩
  · refine (Any2.slices_Insert_int_end_grow insLays none 0 0 vb 0 1 1 [] [.int .i64 x] w (by omega) (by omega) (by omega) (by omega) rfl rfl (fun _ => rfl) (fun a h => by cases h) hvs h1v).mono ?_
    rintro e w' ⟨rfl, rfl⟩
    have c1 := grownCap_ge w (0 + 1) 0 (insRho.t 3)
    have c2 := grownCap_le_maxLen w (0 + 1) 0 (insRho.t 3) (by decide)
    generalize grownCap w (0 + 1) 0 (insRho.t 3) = cap at *
    refine RowPost.mk_ (Blk.new_ (w := w.drew) rfl rfl) rfl ?_ hb ?_ ?_ ?_ (grown_alloc (grown_drew (grown_refl _ _)) _) (.inr (Nat.le_refl _))
    · simp [zs _ rfl]; omega
    · simp [zs _ rfl]
    · simp [zs _ rfl]; omega
    · intro j y hy
      rw [Array.getElem?_append_left (by have := (List.getElem?_eq_some_iff.1 hy).1; simpa using this)]
      cases j <;> simp_all
  · by_cases h0 : xs = []
    · subst h0
      by_cases hcap : cur.size = 0
      · rw [hcap]
        refine (Any2.slices_Insert_int_end_grow insLays (some ⟨g, 0, none⟩) 0 0 vb 0 1 1 [] [.int .i64 x] w (by omega) (by omega) (by omega) (by omega) rfl rfl (fun h => by cases h) (fun a _ j u hu => by simp at hu) hvs h1v).mono ?_
        rintro e w' ⟨rfl, rfl⟩
        have c1 := grownCap_ge w (0 + 1) 0 (insRho.t 3)
        have c2 := grownCap_le_maxLen w (0 + 1) 0 (insRho.t 3) (by decide)
        generalize grownCap w (0 + 1) 0 (insRho.t 3) = cap at *
        refine RowPost.mk_ (Blk.new_ (w := w.drew) rfl rfl) rfl ?_ hb ?_ ?_ ?_ (grown_alloc (grown_drew (grown_refl _ _)) _) (.inr (Nat.le_refl _))
        · simp [zs _ rfl]; omega
        · simp [zs _ rfl]
        · simp [zs _ rfl]; omega
        · intro j y hy
          rw [Array.getElem?_append_left (by have := (List.getElem?_eq_some_iff.1 hy).1; simpa using this)]
          cases j <;> simp_all
      · refine (Any2.slices_Insert_int_end_room insLays g 0 0 cur.size vb 0 1 1 [.int .i64 x] w (by omega) (by omega) (by unfold maxLen at hm; omega) rfl
          (fun j hj => by rw [hh.cell_]; simp; omega) (fun j hj => hh.frozen_ _) hvs h1v).mono ?_
        rintro e w' ⟨rfl, rfl⟩
        refine RowPost.mk_ (hh.setCells_ _ _) rfl (setMany_size _ _ _).symm hbg (by rw [setMany_size]; simp; omega) (by rw [setMany_size]; exact hm) ?_ (grown_setCells g _ _ (grown_refl _ _) (.inl rfl)) (.inl rfl)
        intro j y hy
        have hj : j = 0 := by have := (List.getElem?_eq_some_iff.1 hy).1; simp at this; omega
        subst hj
        rw [setMany_at _ _ _ _ (by omega), if_pos (by simp)]
        simp_all
    · have hp : 0 < xs.length := List.length_pos_iff.2 h0
      have hcs : ∀ j u, (xs.map (Value.int .i64))[j]? = some u → w.cell? ⟨g, 0 + j, none⟩ = some u := by
        intro j u hu
        rw [List.getElem?_map] at hu
        cases hx : xs[j]? with
        | none => rw [hx] at hu; cases hu
        | some y => rw [hx] at hu; rw [hh.cell_, Nat.zero_add, hc j y hx]; simpa using hu
      by_cases hroom : xs.length + 1 ≤ cur.size
      · refine (Any2.slices_Insert_int_shift insLays g 0 xs.length cur.size 0 vb 0 1 1 (xs.map (Value.int .i64)) [.int .i64 x] w hp (by omega) hroom (by unfold maxLen at hm; omega) (by rintro rfl; exact hne rfl)
          (by simp) rfl hcs (fun j hj => by rw [hh.cell_]; simp; omega) (fun j hj => hh.frozen_ _) hvs (int_one xs) h1v 3 3 1 cur.size ?_ ?_ (by omega) (hv.frozen_ _) (hv.frozen_ _)).mono ?_
        · have := hv; unfold Blk at this; simp [World.shape?, this]
        · have := hh; unfold Blk at this; simp [World.shape?, this]
        rintro e w' ⟨rfl, rfl⟩
        refine RowPost.mk_ ((hh.drew_.setCells_ _ _).setCells_ _ _) (by simp) (by rw [setMany_size, setMany_size]) hbg (by rw [setMany_size, setMany_size]; simpa using hroom) (by rw [setMany_size, setMany_size]; exact hm) ?_
          (grown_setCells g _ _ (grown_setCells g _ _ (grown_drew (grown_refl _ _)) (.inl rfl)) (.inl rfl)) (.inl rfl)
        intro j y hy
        have hj := (List.getElem?_eq_some_iff.1 hy).1
        simp only [List.length_cons] at hj
        rw [setMany_at _ _ _ _ (by rw [setMany_size]; omega)]
        cases j with
        | zero => rw [if_pos (by simp)]; simp_all
        | succ j =>
          rw [if_neg (by simp), setMany_at _ _ _ _ (by omega), if_pos (by simp; omega)]
          simp only [List.getElem?_cons_succ] at hy
          simp [hy]
      · have hcn : cur.size = xs.length := by omega
        rw [hcn]
        refine (Any2.slices_Insert_int_grow insLays g 0 xs.length xs.length 0 vb 0 1 1 (xs.map (Value.int .i64)) [.int .i64 x] w hp (by omega) (by omega) (by omega) (by omega) (by simp) rfl hcs hvs (int_one xs) h1v).mono ?_
        rintro e w' ⟨rfl, rfl⟩
        have c1 := grownCap_ge w (xs.length + 1) xs.length (insRho.t 3)
        have c2 := grownCap_le_maxLen w (xs.length + 1) xs.length (insRho.t 3) (by unfold maxLen; omega)
        generalize grownCap w (xs.length + 1) xs.length (insRho.t 3) = cap at *
        have hsz : ((List.take 0 (xs.map (Value.int .i64))).toArray ++ Builtin.zeroCells (Value.int .i64 0).cells (xs.length + 1 - 0) ++ Builtin.zeroCells (Value.int .i64 0).cells (cap - (xs.length + 1))).size = cap := by
          simp only [Array.size_append, zs _ rfl]; simp; omega
        refine RowPost.mk_ (((Blk.new_ (w := w) rfl rfl).drew_.setCells_ _ _).drew_.setCells_ _ _) (by simp) (by rw [setMany_size, setMany_size, hsz]) hb (by rw [setMany_size, setMany_size, hsz]; simpa using c1) (by rw [setMany_size, setMany_size, hsz]; exact c2) ?_
          (grown_setCells _ _ _ (grown_drew (grown_setCells _ _ _ (grown_drew (grown_alloc (grown_refl _ _) _)) (.inr (Nat.le_refl _)))) (.inr (Nat.le_refl _))) (.inr (Nat.le_refl _))
        intro j y hy
        have hj := (List.getElem?_eq_some_iff.1 hy).1
        simp only [List.length_cons] at hj
        rw [setMany_at _ _ _ _ (by rw [setMany_size, hsz]; omega)]
        cases j with
        | zero => rw [if_neg (by simp), setMany_at _ _ _ _ (by rw [hsz]; omega), if_pos (by simp)]; simp_all
        | succ j =>
          rw [if_pos (by simp; omega)]
          simp only [List.getElem?_cons_succ] at hy
          simp [hy]
end Go.Proofs.Ytiobbdfkimpfbaa
