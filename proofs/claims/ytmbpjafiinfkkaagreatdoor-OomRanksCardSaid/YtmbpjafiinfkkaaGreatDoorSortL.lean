/- slices.Sort of ints: the library's contract put into the words of this seat; a slice of the call's own is sorted in place. -/
import Derived.Test.YtmbpjafiinfkkaaGreatDoorAppI
import Derived.Shelf.SortM.Plain
import Derived.Shelf.SortM.SortNone
import Derived.Sort.OwnSorted
import Derived.Lib.SlKeysI
namespace Go.Proofs.YtmbpjafiinfkkaaGreatDoor
set_option linter.unusedSimpArgs false
set_option linter.unusedVariables false
open Go.RowKit Go.Maps
open Go.Shelf Go.Sort
attribute [local go_sem] Oper.semAt_some

def sortRho : Go.Shelf.Ren where
  f := fun n => if n = 5 then 85 else if n = 7 then 107 else if n = 8 then 71 else if n = 10 then 122 else if n = 11 then 123 else if n = 12 then 124 else if n = 13 then 125 else if n = 14 then 126 else if n = 15 then 127 else if n = 16 then 128 else if n = 17 then 129 else if n = 18 then 130 else if n = 19 then 96 else if n = 20 then 97 else if n = 30 then 134 else if n = 31 then 109 else if n = 32 then 110 else if n = 33 then 135 else if n = 34 then 136 else if n = 35 then 87 else if n = 40 then 141 else n
  t := fun n => if n = 23 then 23 else if n = 25 then 3 else if n = 3 then 3 else if n = 32 then 99 else if n = 22 then 23 else if n = 0 then 0 else if n = 44 then 140 else if n = 46 then 38 else if n = 4 then 4 else if n = 36 then 134 else if n = 35 then 133 else if n = 41 then 125 else if n = 5 then 5 else if n = 9 then 9 else if n = 53 then 150 else if n = 57 then 154 else if n = 63 then 168 else if n = 64 then 169 else n
  g := fun n => n
theorem sortLays : SlLaysM.n5 Tryz.prog sortRho where
  mixed := by kernel_rfl
  f5 := ⟨Tryz.f85.name, by kernel_rfl, by kernel_rfl⟩
  f7 := ⟨Tryz.f107.name, by kernel_rfl, by kernel_rfl⟩
  f8 := by kernel_rfl
  f10 := ⟨Tryz.f122.name, by kernel_rfl, by kernel_rfl⟩
  f11 := ⟨Tryz.f123.name, by kernel_rfl, by kernel_rfl⟩
  f12 := ⟨Tryz.f124.name, by kernel_rfl, by kernel_rfl⟩
  f13 := ⟨Tryz.f125.name, by kernel_rfl, by kernel_rfl⟩
  f14 := ⟨Tryz.f126.name, by kernel_rfl, by kernel_rfl⟩
  f15 := ⟨Tryz.f127.name, by kernel_rfl, by kernel_rfl⟩
  f16 := ⟨Tryz.f128.name, by kernel_rfl, by kernel_rfl⟩
  f17 := ⟨Tryz.f129.name, by kernel_rfl, by kernel_rfl⟩
  f18 := ⟨Tryz.f130.name, by kernel_rfl, by kernel_rfl⟩
  f19 := by kernel_rfl
  f20 := by kernel_rfl
  f30 := ⟨Tryz.f134.name, by kernel_rfl, by kernel_rfl⟩
  f31 := by kernel_rfl
  f32 := by kernel_rfl
  f33 := ⟨Tryz.f135.name, by kernel_rfl, by kernel_rfl⟩
  f34 := ⟨Tryz.f136.name, by kernel_rfl, by kernel_rfl⟩
  f35 := ⟨Tryz.f87.name, by kernel_rfl, by kernel_rfl⟩
  f40 := ⟨Tryz.f141.name, by kernel_rfl, by kernel_rfl⟩
  t0 := by kernel_rfl
  a0 := fun _ => by kernel_rfl
  z0 := fun _ => by kernel_rfl
  v0 := fun _ => by kernel_rfl
  t3 := by kernel_rfl
  a3 := fun _ => by kernel_rfl
  z3 := fun _ => by kernel_rfl
  v3 := fun _ => by kernel_rfl
  t4 := by kernel_rfl
  a4 := fun _ => by kernel_rfl
  z4 := fun _ => by kernel_rfl
  v4 := fun _ => by kernel_rfl
  t5 := by kernel_rfl
  a5 := fun _ => by kernel_rfl
  z5 := fun _ => by kernel_rfl
  v5 := fun _ => by kernel_rfl
  t9 := by kernel_rfl
  a9 := fun _ => by kernel_rfl
  z9 := fun _ => by kernel_rfl
  v9 := fun _ => by kernel_rfl
  t22 := by kernel_rfl
  a22 := fun _ => by kernel_rfl
  z22 := fun _ => by kernel_rfl
  v22 := fun _ => by kernel_rfl
  t23 := by kernel_rfl
  a23 := fun _ => by kernel_rfl
  z23 := fun _ => by kernel_rfl
  v23 := fun _ => by kernel_rfl
  t25 := by kernel_rfl
  a25 := fun _ => by kernel_rfl
  z25 := fun _ => by kernel_rfl
  v25 := fun _ => by kernel_rfl
  t32 := by kernel_rfl
  a32 := fun _ => by kernel_rfl
  z32 := fun _ => by kernel_rfl
  v32 := fun _ => by kernel_rfl
  t35 := by kernel_rfl
  a35 := fun _ => by kernel_rfl
  z35 := fun _ => by kernel_rfl
  v35 := fun _ => by kernel_rfl
  t36 := by kernel_rfl
  a36 := fun _ => by kernel_rfl
  z36 := fun _ => by kernel_rfl
  v36 := fun _ => by kernel_rfl
  t41 := by kernel_rfl
  a41 := fun _ => by kernel_rfl
  z41 := fun _ => by kernel_rfl
  v41 := fun _ => by kernel_rfl
  t44 := by kernel_rfl
  a44 := fun _ => by kernel_rfl
  z44 := fun _ => by kernel_rfl
  v44 := fun _ => by kernel_rfl
  t46 := by kernel_rfl
  a46 := fun _ => by kernel_rfl
  z46 := fun _ => by kernel_rfl
  v46 := fun _ => by kernel_rfl
  t53 := by kernel_rfl
  a53 := fun _ => by kernel_rfl
  z53 := fun _ => by kernel_rfl
  v53 := fun _ => by kernel_rfl
  t57 := by kernel_rfl
  a57 := fun _ => by kernel_rfl
  z57 := fun _ => by kernel_rfl
  v57 := fun _ => by kernel_rfl
  t63 := by kernel_rfl
  a63 := fun _ => by kernel_rfl
  z63 := fun _ => by kernel_rfl
  v63 := fun _ => by kernel_rfl
  t64 := by kernel_rfl
  a64 := fun _ => by kernel_rfl
  z64 := fun _ => by kernel_rfl
  v64 := fun _ => by kernel_rfl

theorem sort_any (blk off cap : Nat) (zs : List Int) (w : World) (hH : Holds (Value.int .i64) w blk off zs.toArray) (hblk : blk < w.heap.size) (hsz : zs.length < 4611686018427387904) :
    Calls Tryz.prog 85 #[.slice (some ⟨blk, off, none⟩) zs.length cap] w fun e w' =>
      e = .returned (.tuple #[]) ∧ ∃ n os, w' = grow (putRow (Value.int .i64) (Sort.ahead w n) blk off (zs.mergeSort fun x y => decide (x ≤ y)).toArray) os :=
  AnyM.slices_Sort_int sortLays blk off cap zs w hH hblk hsz
theorem sort_none (p : Option Addr) (cap : Nat) (w : World) : Calls Tryz.prog 85 #[.slice p 0 cap] w fun e w' => e = .returned (.tuple #[]) ∧ w' = w :=
  AnyM.slices_Sort_int_none sortLays p cap w
/-- A list of ints, sorted. -/
def srt (ss : List Int) : List Int := ss.mergeSort fun x y => decide (x ≤ y)
theorem srt_len (ss : List Int) : (srt ss).length = ss.length := by simp [srt]
theorem sort_own (base : Nat) (A : Option Addr) (c : Nat) (ss : List Int) (W : World) (h : Own W base 3 (.int .i64) (.slice A ss.length c) ss) (hsz : ss.length < 4611686018427387904) :
    Calls Tryz.prog 85 #[.slice A ss.length c] W fun e w' => e = .returned (.tuple #[]) ∧ Own w' base 3 (.int .i64) (.slice A (srt ss).length c) (srt ss) ∧ Below base W w' := by
  rcases h.2 with ⟨e0, hz⟩ | ⟨gb, cap, cur, e0, hbase, hgb, r1, r2, r3, r4⟩
  · have hss : ss = [] := List.eq_nil_of_length_eq_zero hz
    subst hss
    refine (sort_none A c W).mono ?_
    rintro e w' ⟨rfl, rfl⟩
    exact ⟨rfl, by simpa [srt] using h, Below.refl _ _⟩
  · injection e0 with e1 e2 e3
    subst e1 e3
    have hH : Holds (Value.int .i64) W gb 0 ss.toArray := holds_of_block_i hgb (by simpa using r4)
    have hgl : gb < W.heap.size := (Array.getElem?_eq_some_iff.1 hgb).1
    refine (sort_any gb 0 c ss W hH hgl hsz).mono ?_
    rintro e w' ⟨rfl, nn, os, rfl⟩
    have ho := ownsRow_sorted_i (n := nn) (os := os) (ts := srt ss) (srt_len ss) hbase hgb r1 r2 r3
    refine ⟨rfl, ?_, (Below.refl _ _).grown (grownBy_sorted_i _) (by omega) (fun j hj => by cases hj; exact hbase)⟩
    show World.ownsRow _ _ _ _ _ _ _
    rw [srt_len]
    exact ho
end Go.Proofs.YtmbpjafiinfkkaaGreatDoor
