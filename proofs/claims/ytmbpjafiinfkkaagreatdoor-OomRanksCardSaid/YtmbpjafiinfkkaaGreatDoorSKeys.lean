/- slices.Sorted(maps.Keys(m)) at a map with int keys: the library's contracts put into the words of this seat. -/
import Derived.Test.YtmbpjafiinfkkaaGreatDoorSortL
import Derived.Test.YtmbpjafiinfkkaaGreatDoorSetM
import Derived.Shelf.SlIterI.Sorted
import Derived.Shelf.SlIterI.Collect
import Derived.Shelf.SlLaysZI
namespace Go.Proofs.YtmbpjafiinfkkaaGreatDoor
set_option linter.unusedSimpArgs false
set_option linter.unusedVariables false
open Go.RowKit Go.Maps
open Go.Shelf Go.Sort

/-- The keys of a map, ascending. -/
def keysS (D : DataW Unit) : List Int := srt (intKeys D)
theorem intKeyed : Keyed Tryz.prog 3 := int_keyed Tryz.underlying3
theorem keysS_perm {D : DataW Unit} {ss : List Int} (h : ss.Perm (intKeys D)) : srt ss = keysS D := mergeSort_of_perm_i h
theorem srt_asc {ss : List Int} (ha : ss.Pairwise (· < ·)) : srt ss = ss := by
  refine List.mergeSort_of_pairwise (ha.imp fun {a b} h => ?_)
  simp; omega
theorem keysS_eq {w : World} {B n : Nat} {R : Value → Option (DataW Unit × List MemPlace)} {D : DataW Unit} (h : w.ownsMap Tryz.prog 3 R B n D) {ss : List Int} (ha : ss.Pairwise (· < ·)) (hm : ∀ x, x ∈ ss ↔ Go.Maps.has D (.int .i64 x) = true) : keysS D = ss := by
  have hc : CollectedI D (fun _ => false) ss := ⟨ha.imp (fun {a b} h e => by omega), fun x => by simp [hm x]⟩
  have hp := hc.perm h intKeyed Tryz.underlying3 (fun _ => rfl)
  rw [← keysS_perm hp, srt_asc ha]
theorem keys_out {D : DataW Unit} {ss : List Int} {w w' : World} {v : Value} (hS : ss.Perm (intKeys D)) (hrow : w'.ownsRow w.heap.size 3 1 v ss.length ((ss.mergeSort (fun x y => decide (x ≤ y))).map encZ)) (hb : Below w.heap.size w w') :
    ∃ A c, Ending.returned v = .returned (.slice A (keysS D).length c) ∧ Own w' w.heap.size 3 (.int .i64) (.slice A (keysS D).length c) (keysS D) ∧ Below w.heap.size w w' := by
  have e : srt ss = keysS D := keysS_perm hS
  have hO : Own w' w.heap.size 3 (.int .i64) v (srt ss) := by
    show World.ownsRow _ _ _ _ _ _ _
    rw [srt_len]
    exact hrow
  rw [e] at hO
  obtain ⟨A', c', e', hs'⟩ := hO.sl
  subst e'
  exact ⟨A', c', rfl, hO, hb⟩

def keRho : Go.Shelf.Ren where
  f := fun n => if n = 6 then 66 else if n = 7 then 77 else if n = 8 then 84 else if n = 9 then 85 else if n = 10 then 102 else if n = 11 then 106 else n
  t := fun n => if n = 0 then 0 else if n = 3 then 28 else if n = 4 then 4 else if n = 23 then 120 else if n = 24 then 23 else if n = 26 then 3 else if n = 27 then 108 else if n = 28 then 109 else if n = 33 then 131 else n
  g := fun n => n
theorem keLays6 : SlLaysZI.n6 Tryz.prog keRho where
  mixed := by kernel_rfl
  f6 := ⟨Tryz.f66.name, by kernel_rfl, by kernel_rfl⟩
  f8 := ⟨Tryz.f84.name, by kernel_rfl, by kernel_rfl⟩
  f11 := ⟨Tryz.f106.name, by kernel_rfl, by kernel_rfl⟩
  t0 := by kernel_rfl
  a0 := fun _ => by kernel_rfl
  z0 := fun _ => by kernel_rfl
  v0 := fun _ => by kernel_rfl
  t24 := by kernel_rfl
  a24 := fun _ => by kernel_rfl
  z24 := fun _ => by kernel_rfl
  v24 := fun _ => by kernel_rfl
  t26 := by kernel_rfl
  a26 := fun _ => by kernel_rfl
  z26 := fun _ => by kernel_rfl
  v26 := fun _ => by kernel_rfl
  t28 := by kernel_rfl
  a28 := fun _ => by kernel_rfl
  z28 := fun _ => by kernel_rfl
  v28 := fun _ => by kernel_rfl
  i26 := by kernel_rfl
theorem keLays7 : SlLaysZI.n7 Tryz.prog keRho where
  mixed := by kernel_rfl
  f7 := ⟨Tryz.f77.name, by kernel_rfl, by kernel_rfl⟩
  f10 := ⟨Tryz.f102.name, by kernel_rfl, by kernel_rfl⟩
  t0 := by kernel_rfl
  a0 := fun _ => by kernel_rfl
  z0 := fun _ => by kernel_rfl
  v0 := fun _ => by kernel_rfl
  t4 := by kernel_rfl
  a4 := fun _ => by kernel_rfl
  z4 := fun _ => by kernel_rfl
  v4 := fun _ => by kernel_rfl
  t23 := by kernel_rfl
  a23 := fun _ => by kernel_rfl
  z23 := fun _ => by kernel_rfl
  v23 := fun _ => by kernel_rfl
  t26 := by kernel_rfl
  a26 := fun _ => by kernel_rfl
  z26 := fun _ => by kernel_rfl
  v26 := fun _ => by kernel_rfl
  t27 := by kernel_rfl
  a27 := fun _ => by kernel_rfl
  z27 := fun _ => by kernel_rfl
  v27 := fun _ => by kernel_rfl
  t28 := by kernel_rfl
  a28 := fun _ => by kernel_rfl
  z28 := fun _ => by kernel_rfl
  v28 := fun _ => by kernel_rfl
  t33 := by kernel_rfl
  a33 := fun _ => by kernel_rfl
  z33 := fun _ => by kernel_rfl
  v33 := fun _ => by kernel_rfl
theorem keLays10 : SlLaysZI.n10 Tryz.prog keRho where
  mixed := by kernel_rfl
  f10 := ⟨Tryz.f102.name, by kernel_rfl, by kernel_rfl⟩
  t0 := by kernel_rfl
  a0 := fun _ => by kernel_rfl
  z0 := fun _ => by kernel_rfl
  v0 := fun _ => by kernel_rfl
  t4 := by kernel_rfl
  a4 := fun _ => by kernel_rfl
  z4 := fun _ => by kernel_rfl
  v4 := fun _ => by kernel_rfl
  t23 := by kernel_rfl
  a23 := fun _ => by kernel_rfl
  z23 := fun _ => by kernel_rfl
  v23 := fun _ => by kernel_rfl
  t26 := by kernel_rfl
  a26 := fun _ => by kernel_rfl
  z26 := fun _ => by kernel_rfl
  v26 := fun _ => by kernel_rfl
  t33 := by kernel_rfl
  a33 := fun _ => by kernel_rfl
  z33 := fun _ => by kernel_rfl
  v33 := fun _ => by kernel_rfl

theorem ke_sorts (m : Nat) : Go.Proofs.AnyZI.SortsIn Tryz.prog keRho Fence.wide m :=
  ⟨fun blk off cap ss W hH hb hs => callsIn_wide.2 (sort_any blk off cap ss W hH hb hs), fun p cap W => callsIn_wide.2 (sort_none p cap W)⟩
/-- maps.Keys. -/
theorem ke_keys (mb : Option Nat) (w : World) : Calls Tryz.prog 77 #[.map mb] w fun e w' => e = .returned (.func (.func 102) #[] #[.pointer (some ⟨w.heap.size, 0, none⟩)]) ∧ w' = w.alloc (.cells #[.map mb] 120) :=
  (callsIn_wide (n := 1)).1 (Go.Proofs.AnyZI.keys_in keLays7 Fence.wide 1 trivial rfl mb w)
/-- slices.Sorted over a map's keys. -/
theorem ke_sorted (Bm b nn : Nat) (D : DataW Unit) (w : World) (hBm : Bm < w.heap.size) (hm : w.cell? ⟨Bm, 0, none⟩ = some (.map (some b))) (hown : w.ownsMap Tryz.prog 3 (plainElem Tryz.prog 28) b nn D) (hN : nn ≤ 1000000) :
    Calls Tryz.prog 66 #[.func (.func 102) #[] #[.pointer (some ⟨Bm, 0, none⟩)]] w fun e w' => ∃ A c, e = .returned (.slice A (keysS D).length c) ∧ Own w' w.heap.size 3 (.int .i64) (.slice A (keysS D).length c) (keysS D) ∧ Below w.heap.size w w' := by
  have hD := hown.size_le
  refine ((callsIn_wide (n := 6)).1 (Go.Proofs.AnyZI.sorted_in keLays6 Fence.wide 6 trivial trivial trivial trivial rfl (by omega) (ke_sorts _) (enters_of Tryz.func85 (by kernel_rfl) rfl) 102 #[.pointer (some ⟨Bm, 0, none⟩)] trivial (enters_of Tryz.func102 (by kernel_rfl) rfl)
    _ (Go.Maps.size D) (by unfold maxLen; omega) (by omega) w (Go.Proofs.AnyZI.keys_gives keLays10 Fence.wide _ trivial rfl (by omega) Bm b nn D w hBm hm hown))).mono ?_
  rintro e w' ⟨v, ss, rfl, hS, hrow, _, hb⟩
  exact keys_out hS hrow hb

def kiRho : Go.Shelf.Ren where
  f := fun n => if n = 6 then 66 else if n = 7 then 67 else if n = 8 then 84 else if n = 9 then 85 else if n = 10 then 86 else if n = 11 then 106 else n
  t := fun n => if n = 0 then 0 else if n = 3 then 3 else if n = 4 then 4 else if n = 23 then 69 else if n = 24 then 23 else if n = 26 then 3 else if n = 27 then 108 else if n = 28 then 109 else if n = 33 then 131 else n
  g := fun n => n
theorem kiLays6 : SlLaysZI.n6 Tryz.prog kiRho where
  mixed := by kernel_rfl
  f6 := ⟨Tryz.f66.name, by kernel_rfl, by kernel_rfl⟩
  f8 := ⟨Tryz.f84.name, by kernel_rfl, by kernel_rfl⟩
  f11 := ⟨Tryz.f106.name, by kernel_rfl, by kernel_rfl⟩
  t0 := by kernel_rfl
  a0 := fun _ => by kernel_rfl
  z0 := fun _ => by kernel_rfl
  v0 := fun _ => by kernel_rfl
  t24 := by kernel_rfl
  a24 := fun _ => by kernel_rfl
  z24 := fun _ => by kernel_rfl
  v24 := fun _ => by kernel_rfl
  t26 := by kernel_rfl
  a26 := fun _ => by kernel_rfl
  z26 := fun _ => by kernel_rfl
  v26 := fun _ => by kernel_rfl
  t28 := by kernel_rfl
  a28 := fun _ => by kernel_rfl
  z28 := fun _ => by kernel_rfl
  v28 := fun _ => by kernel_rfl
  i26 := by kernel_rfl
theorem kiLays7 : SlLaysZI.n7 Tryz.prog kiRho where
  mixed := by kernel_rfl
  f7 := ⟨Tryz.f67.name, by kernel_rfl, by kernel_rfl⟩
  f10 := ⟨Tryz.f86.name, by kernel_rfl, by kernel_rfl⟩
  t0 := by kernel_rfl
  a0 := fun _ => by kernel_rfl
  z0 := fun _ => by kernel_rfl
  v0 := fun _ => by kernel_rfl
  t4 := by kernel_rfl
  a4 := fun _ => by kernel_rfl
  z4 := fun _ => by kernel_rfl
  v4 := fun _ => by kernel_rfl
  t23 := by kernel_rfl
  a23 := fun _ => by kernel_rfl
  z23 := fun _ => by kernel_rfl
  v23 := fun _ => by kernel_rfl
  t26 := by kernel_rfl
  a26 := fun _ => by kernel_rfl
  z26 := fun _ => by kernel_rfl
  v26 := fun _ => by kernel_rfl
  t27 := by kernel_rfl
  a27 := fun _ => by kernel_rfl
  z27 := fun _ => by kernel_rfl
  v27 := fun _ => by kernel_rfl
  t28 := by kernel_rfl
  a28 := fun _ => by kernel_rfl
  z28 := fun _ => by kernel_rfl
  v28 := fun _ => by kernel_rfl
  t33 := by kernel_rfl
  a33 := fun _ => by kernel_rfl
  z33 := fun _ => by kernel_rfl
  v33 := fun _ => by kernel_rfl
theorem kiLays10 : SlLaysZI.n10 Tryz.prog kiRho where
  mixed := by kernel_rfl
  f10 := ⟨Tryz.f86.name, by kernel_rfl, by kernel_rfl⟩
  t0 := by kernel_rfl
  a0 := fun _ => by kernel_rfl
  z0 := fun _ => by kernel_rfl
  v0 := fun _ => by kernel_rfl
  t4 := by kernel_rfl
  a4 := fun _ => by kernel_rfl
  z4 := fun _ => by kernel_rfl
  v4 := fun _ => by kernel_rfl
  t23 := by kernel_rfl
  a23 := fun _ => by kernel_rfl
  z23 := fun _ => by kernel_rfl
  v23 := fun _ => by kernel_rfl
  t26 := by kernel_rfl
  a26 := fun _ => by kernel_rfl
  z26 := fun _ => by kernel_rfl
  v26 := fun _ => by kernel_rfl
  t33 := by kernel_rfl
  a33 := fun _ => by kernel_rfl
  z33 := fun _ => by kernel_rfl
  v33 := fun _ => by kernel_rfl

theorem ki_sorts (m : Nat) : Go.Proofs.AnyZI.SortsIn Tryz.prog kiRho Fence.wide m :=
  ⟨fun blk off cap ss W hH hb hs => callsIn_wide.2 (sort_any blk off cap ss W hH hb hs), fun p cap W => callsIn_wide.2 (sort_none p cap W)⟩
/-- maps.Keys. -/
theorem ki_keys (mb : Option Nat) (w : World) : Calls Tryz.prog 67 #[.map mb] w fun e w' => e = .returned (.func (.func 86) #[] #[.pointer (some ⟨w.heap.size, 0, none⟩)]) ∧ w' = w.alloc (.cells #[.map mb] 69) :=
  (callsIn_wide (n := 1)).1 (Go.Proofs.AnyZI.keys_in kiLays7 Fence.wide 1 trivial rfl mb w)
/-- slices.Sorted over a map's keys. -/
theorem ki_sorted (Bm b nn : Nat) (D : DataW Unit) (w : World) (hBm : Bm < w.heap.size) (hm : w.cell? ⟨Bm, 0, none⟩ = some (.map (some b))) (hown : w.ownsMap Tryz.prog 3 (plainElem Tryz.prog 3) b nn D) (hN : nn ≤ 1000000) :
    Calls Tryz.prog 66 #[.func (.func 86) #[] #[.pointer (some ⟨Bm, 0, none⟩)]] w fun e w' => ∃ A c, e = .returned (.slice A (keysS D).length c) ∧ Own w' w.heap.size 3 (.int .i64) (.slice A (keysS D).length c) (keysS D) ∧ Below w.heap.size w w' := by
  have hD := hown.size_le
  refine ((callsIn_wide (n := 6)).1 (Go.Proofs.AnyZI.sorted_in kiLays6 Fence.wide 6 trivial trivial trivial trivial rfl (by omega) (ki_sorts _) (enters_of Tryz.func85 (by kernel_rfl) rfl) 86 #[.pointer (some ⟨Bm, 0, none⟩)] trivial (enters_of Tryz.func86 (by kernel_rfl) rfl)
    _ (Go.Maps.size D) (by unfold maxLen; omega) (by omega) w (Go.Proofs.AnyZI.keys_gives kiLays10 Fence.wide _ trivial rfl (by omega) Bm b nn D w hBm hm hown))).mono ?_
  rintro e w' ⟨v, ss, rfl, hS, hrow, _, hb⟩
  exact keys_out hS hrow hb
end Go.Proofs.YtmbpjafiinfkkaaGreatDoor
