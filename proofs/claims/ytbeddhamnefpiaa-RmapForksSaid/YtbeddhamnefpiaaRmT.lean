/- slices.SortFunc of mappings: the library's contract put into the words of this seat. Written by gen_rmt.py. -/
import Derived.Test.YtbeddhamnefpiaaRmC
import Derived.Test.YtbeddhamnefpiaaRmG
import Derived.Shelf.SlSortCmp.NoneTotal
namespace Go.Proofs.Ytbeddhamnefpiaa
set_option linter.unusedSimpArgs false
set_option linter.unusedVariables false
open Go.RowKit Go.Maps
open Go.Shelf Go.Sort

def mapRho : Go.Shelf.Ren where
  f := fun n => if n = 6 then 66 else if n = 14 then 71 else if n = 15 then 72 else if n = 20 then 75 else if n = 21 then 76 else if n = 22 then 77 else if n = 23 then 78 else if n = 24 then 79 else if n = 25 then 80 else if n = 26 then 81 else if n = 27 then 82 else if n = 28 then 83 else if n = 29 then 84 else if n = 46 then 94 else if n = 47 then 95 else if n = 48 then 96 else if n = 49 then 97 else if n = 50 then 98 else if n = 57 then 102 else n
  t := fun n => if n = 0 then 0 else if n = 3 then 3 else if n = 4 then 4 else if n = 5 then 5 else if n = 9 then 9 else if n = 22 then 22 else if n = 24 then 59 else if n = 25 then 68 else if n = 39 then 94 else if n = 45 then 98 else if n = 46 then 99 else if n = 50 then 72 else if n = 53 then 105 else if n = 55 then 107 else if n = 66 then 114 else if n = 70 then 118 else if n = 76 then 122 else if n = 77 then 123 else n
  g := fun n => n
theorem mapLays : SlLaysF0.n6 Try.prog mapRho where
  mixed := by kernel_rfl
  f6 := ⟨Try.f66.name, by kernel_rfl, by kernel_rfl⟩
  f14 := ⟨Try.f71.name, by kernel_rfl, by kernel_rfl⟩
  f15 := by kernel_rfl
  f20 := ⟨Try.f75.name, by kernel_rfl, by kernel_rfl⟩
  f21 := ⟨Try.f76.name, by kernel_rfl, by kernel_rfl⟩
  f22 := ⟨Try.f77.name, by kernel_rfl, by kernel_rfl⟩
  f23 := ⟨Try.f78.name, by kernel_rfl, by kernel_rfl⟩
  f24 := ⟨Try.f79.name, by kernel_rfl, by kernel_rfl⟩
  f25 := ⟨Try.f80.name, by kernel_rfl, by kernel_rfl⟩
  f26 := ⟨Try.f81.name, by kernel_rfl, by kernel_rfl⟩
  f27 := ⟨Try.f82.name, by kernel_rfl, by kernel_rfl⟩
  f28 := by kernel_rfl
  f29 := by kernel_rfl
  f46 := ⟨Try.f94.name, by kernel_rfl, by kernel_rfl⟩
  f47 := by kernel_rfl
  f48 := by kernel_rfl
  f49 := ⟨Try.f97.name, by kernel_rfl, by kernel_rfl⟩
  f50 := ⟨Try.f98.name, by kernel_rfl, by kernel_rfl⟩
  f57 := ⟨Try.f102.name, by kernel_rfl, by kernel_rfl⟩
  t0 := by kernel_rfl
  a0 := fun _ => by kernel_rfl
  z0 := fun _ => by kernel_rfl
  v0 := fun _ => by kernel_rfl
  t3 := by kernel_rfl
  a3 := fun _ => by kernel_rfl
  z3 := fun _ => by kernel_rfl
  v3 := fun _ => by kernel_rfl
  t4 := by kernel_rfl
  a4 := fun _ => by kernel_rfl
  z4 := fun _ => by kernel_rfl
  v4 := fun _ => by kernel_rfl
  t5 := by kernel_rfl
  a5 := fun _ => by kernel_rfl
  z5 := fun _ => by kernel_rfl
  v5 := fun _ => by kernel_rfl
  t9 := by kernel_rfl
  a9 := fun _ => by kernel_rfl
  z9 := fun _ => by kernel_rfl
  v9 := fun _ => by kernel_rfl
  t22 := by kernel_rfl
  a22 := fun _ => by kernel_rfl
  z22 := fun _ => by kernel_rfl
  v22 := fun _ => by kernel_rfl
  t25 := by kernel_rfl
  a25 := fun _ => by kernel_rfl
  z25 := fun _ => by kernel_rfl
  v25 := fun _ => by kernel_rfl
  t39 := by kernel_rfl
  a39 := fun _ => by kernel_rfl
  z39 := fun _ => by kernel_rfl
  v39 := fun _ => by kernel_rfl
  t45 := by kernel_rfl
  a45 := fun _ => by kernel_rfl
  z45 := fun _ => by kernel_rfl
  v45 := fun _ => by kernel_rfl
  t46 := by kernel_rfl
  a46 := fun _ => by kernel_rfl
  z46 := fun _ => by kernel_rfl
  v46 := fun _ => by kernel_rfl
  t50 := by kernel_rfl
  a50 := fun _ => by kernel_rfl
  z50 := fun _ => by kernel_rfl
  v50 := fun _ => by kernel_rfl
  t53 := by kernel_rfl
  a53 := fun _ => by kernel_rfl
  z53 := fun _ => by kernel_rfl
  v53 := fun _ => by kernel_rfl
  t55 := by kernel_rfl
  a55 := fun _ => by kernel_rfl
  z55 := fun _ => by kernel_rfl
  v55 := fun _ => by kernel_rfl
  t66 := by kernel_rfl
  a66 := fun _ => by kernel_rfl
  z66 := fun _ => by kernel_rfl
  v66 := fun _ => by kernel_rfl
  t70 := by kernel_rfl
  a70 := fun _ => by kernel_rfl
  z70 := fun _ => by kernel_rfl
  v70 := fun _ => by kernel_rfl
  t76 := by kernel_rfl
  a76 := fun _ => by kernel_rfl
  z76 := fun _ => by kernel_rfl
  v76 := fun _ => by kernel_rfl
  t77 := by kernel_rfl
  a77 := fun _ => by kernel_rfl
  z77 := fun _ => by kernel_rfl
  v77 := fun _ => by kernel_rfl

theorem cmpM_lt (x y : M3) : cmpM x y < 0 ↔ ltM x y = true := by
  unfold cmpM orI cmpI ltM
  rw [decide_eq_true_eq]
  (repeat' split) <;> omega
theorem cmpM_ge (x y : M3) : 0 ≤ cmpM x y ↔ ltM x y = false := by
  have := cmpM_lt x y
  cases h : ltM x y with
  | true => rw [h] at this; simp at this ⊢; omega
  | false => rw [h] at this; simp at this ⊢; omega
theorem ltOf_cmpM : Go.Proofs.ltOf cmpM = ltM := by
  funext x y
  unfold Go.Proofs.ltOf
  cases h : ltM x y with
  | true => exact decide_eq_true ((cmpM_lt x y).2 h)
  | false => exact decide_eq_false (by have := (cmpM_ge x y).2 h; omega)
theorem cmp_lays (blk off size : Nat) (w : World) : Go.Proofs.CmpLays Try.prog 44 #[] mapE.enc 3 cmpM blk off size w := fun m os dk _ x y =>
  (FreeD.compare_laid x y _).mono fun e w' ⟨he, hb⟩ => ⟨he, hb.laid⟩
theorem sortF_any (blk off cap : Nat) (l : List M3) (w : World) (hH : HoldsK mapE.enc 3 w blk off l.toArray) (hblk : blk < w.heap.size) (hsz : l.length < 4611686018427387904) :
    Calls Try.prog 66 #[.slice (some ⟨blk, off, none⟩) l.length cap, .func (.func 44) #[] #[]] w fun e w' =>
      e = .returned (.tuple #[]) ∧ ∃ n os, w' = sortWorldK mapE.enc 3 w blk off n (srtM l).toArray os := by
  have h := Go.Proofs.AnyQ.slices_SortFunc_total mapLays 3 (fun _ => by kernel_rfl) (fun _ => by kernel_rfl) mapE.enc (fun _ => rfl) mapE.hone cmpM (by rw [ltOf_cmpM]; exact swoM) 44 #[] blk off cap l.toArray w
    (enters_of Try.func44 (by kernel_rfl) rfl) (cmp_lays blk off _ w) hH hblk (by simpa using hsz) (by rw [ltOf_cmpM]; exact totM)
  rw [ltOf_cmpM] at h
  exact h
theorem sortF_none (p : Option Addr) (cap : Nat) (v : Value) (w : World) : Calls Try.prog 66 #[.slice p 0 cap, v] w fun e w' => e = .returned (.tuple #[]) ∧ w' = w :=
  Go.Proofs.AnyF.slices_SortFunc_none mapLays p cap v w

theorem flatK_map (l : List M3) : flatK mapE.enc 3 l.toArray = (mapE.flat l).toArray := by
  apply Array.ext
  · simp [mapE.flat_length, show mapE.sz = 3 from rfl]
  · intro i h1 h2
    have hi : i < l.length * 3 := by simpa using h1
    have hk : i / 3 < l.length := by omega
    have h3 := mapE.flat_at (l := l) (k := i / 3) (j := i % 3) (x := l[i / 3]) (u := (mapE.enc l[i / 3])[i % 3]'(by rw [mapE.hlen]; show i % 3 < 3; omega)) (List.getElem?_eq_getElem hk) (List.getElem?_eq_getElem _)
    rw [show i / 3 * mapE.sz + i % 3 = i from by show i / 3 * 3 + i % 3 = i; omega] at h3
    have h4 : (flatK mapE.enc 3 l.toArray)[i]? = some ((mapE.enc l[i / 3])[i % 3]'(by rw [mapE.hlen]; show i % 3 < 3; omega)) := by
      have hm : i % 3 < (mapE.enc l[i / 3]).length := by rw [mapE.hlen]; show i % 3 < 3; omega
      simp only [flatK]
      rw [Array.getElem?_map, Array.getElem?_range, if_pos (by simpa using hi)]
      simp only [Option.map_some]
      rw [getElem!_pos l.toArray (i / 3) (by simpa using hk)]
      simp only [List.getElem_toArray]
      rw [getElem!_pos (mapE.enc l[i / 3]) (i % 3) hm]
    rw [Array.getElem?_eq_getElem h1] at h4
    have h5 := Option.some.inj h4
    rw [h5]
    obtain ⟨_, h6⟩ := List.getElem?_eq_some_iff.1 h3
    simp [h6]
theorem holdsK_own {w : World} {base c g : Nat} {sp} {l : List M3} (h : OwnR mapE w base (.slice (some ⟨g, 0, sp⟩) l.length c) l) (hp : 0 < l.length) :
    sp = none ∧ base ≤ g ∧ g < w.heap.size ∧ HoldsK mapE.enc 3 w g 0 l.toArray ∧
    ∀ n os, OwnR mapE (sortWorldK mapE.enc 3 w g 0 n (srtM l).toArray os) base (.slice (some ⟨g, 0, none⟩) (srtM l).length c) (srtM l) ∧ w.grownBy (sortWorldK mapE.enc 3 w g 0 n (srtM l).toArray os) (some g) := by
  obtain ⟨hl, ⟨e, hn⟩ | ⟨g', cap, cur, e, hg, hb, h1, h2, h3, h4⟩⟩ := h
  · omega
  · injection e with e e1 e2
    injection e with e
    injection e with e3 e4 e5
    subst e3 e2
    have hgl : g < w.heap.size := (Array.getElem?_eq_some_iff.1 hb).1
    refine ⟨e5, hg, hgl, ?_, fun n os => ⟨?_, ?_⟩⟩
    · unfold HoldsK
      rw [flatK_map]
      intro j hj
      have hj' : j < l.length * 3 := by simpa [mapE.flat_length, show mapE.sz = 3 from rfl] using hj
      refine ⟨?_, by simp [World.frozen?, hb]⟩
      have h5 : (cur.toList.take (l.length * mapE.sz))[j]? = (mapE.flat l)[j]? := by rw [h4]
      rw [List.getElem?_take_of_lt (show j < l.length * mapE.sz from hj')] at h5
      simp only [World.cell?, hb, Nat.zero_add]
      simp only [Option.isSome_none, Bool.false_eq_true, if_false]
      rw [← Array.getElem?_toList, h5]
      have hj2 : j < (mapE.flat l).length := by simpa using hj
      rw [getElem!_pos (mapE.flat l).toArray j hj, List.getElem?_eq_getElem hj2]
      simp
    · refine ⟨mapE.flat_length _, .inr ⟨g, c, putCells id 0 (mapE.flat (srtM l)).toArray cur, rfl, hg, ?_, by rw [srtM_len]; exact h1, h2, by simp [putCells, h3], ?_⟩⟩
      · unfold sortWorldK putRowK
        rw [heap_grow_old _ _ (by simpa [putRow, mapBlock, Sort.ahead] using hgl), flatK_map]
        simp [putRow, mapBlock, Sort.ahead, Array.getElem?_modify, hb, onCells]
      · have hle : (mapE.flat (srtM l)).length ≤ cur.size := by rw [mapE.flat_length, srtM_len, h3]; exact Nat.mul_le_mul_right _ h1
        rw [show (srtM l).length * mapE.sz = (mapE.flat (srtM l)).length from (mapE.flat_length _).symm]
        apply List.ext_getElem?
        intro j
        by_cases hj : j < (mapE.flat (srtM l)).length
        · rw [List.getElem?_take_of_lt hj, Array.getElem?_toList]
          simp [putCells, hj, show j < cur.size by omega]
        · rw [List.getElem?_take_eq_none (by omega), List.getElem?_eq_none (by omega)]
    · unfold sortWorldK putRowK
      refine ⟨rfl, rfl, rfl, by simp [putRow, mapBlock, Sort.ahead, grow], fun k hk hne => ?_⟩
      rw [heap_grow_old _ _ (by simpa [putRow, mapBlock, Sort.ahead] using hk)]
      have : g ≠ k := fun e => hne (by rw [e])
      simp [putRow, mapBlock, Sort.ahead, Array.getElem?_modify, this]
/-- slices.SortFunc of a slice that the call owns. -/
theorem sortF_own (base : Nat) (A : Option Addr) (c : Nat) (l : List M3) (w : World) (h : OwnR mapE w base (.slice A l.length c) l) (hl : l.length ≤ 100000) :
    Calls Try.prog 66 #[.slice A l.length c, .func (.func 44) #[] #[]] w fun e w' =>
      e = .returned (.tuple #[]) ∧ OwnR mapE w' base (.slice A (srtM l).length c) (srtM l) ∧ Below base w w' := by
  rcases Nat.eq_zero_or_pos l.length with h0 | hp
  · have : l = [] := List.eq_nil_of_length_eq_zero h0
    subst this
    refine (sortF_none A c _ w).mono ?_
    rintro e w' ⟨rfl, rfl⟩
    exact ⟨rfl, by simpa [srtM] using h, Below.refl _ _⟩
  · obtain ⟨b, off, hA, _⟩ := h.sr.2 (SR.len_pos hp)
    subst hA
    have h0 : off = 0 := by
      obtain ⟨_, ⟨e, hn⟩ | ⟨g', cap, cur, e, _⟩⟩ := h
      · cases e
      · injection e with e; injection e with e; injection e
    subst h0
    obtain ⟨_, hg, hgl, hH, hX⟩ := holdsK_own h hp
    refine (sortF_any b 0 c l w hH hgl (by omega)).mono ?_
    rintro e w' ⟨rfl, n, os, rfl⟩
    obtain ⟨h1, h2⟩ := hX n os
    exact ⟨rfl, h1, (Below.refl _ _).grown h2 (by omega) (fun j hj => by cases hj; exact hg)⟩
end Go.Proofs.Ytbeddhamnefpiaa
