/- Contracts of the package zone: those who ask for frames. -/
import Derived.Test.YtdkangjjiikdiaaZone
import Derived.Laws.EntriesVeiled
import Derived.Deep.RegionHeld3
namespace Go.Proofs.Ytdkangjjiikdiaa
set_option linter.unusedSimpArgs false
set_option linter.unusedVariables false
open Go.RowKit Go.Maps

def flo (mn hi c : Int) : Int := if c = 1 then mn else if c = 2 then 0 else hi
/-- What Take gives back. -/
def takeR (mn lo hi c free n : Int) : Value :=
  if zchd mn lo hi c free n ≠ 0 then .tuple #[.int .i64 0, .int .i64 0, .int .i64 (zchd mn lo hi c free n)]
  else .tuple #[.int .i64 (min n (max (free - flo mn hi c) 0)), .int .i64 (free - min n (max (free - flo mn hi c) 0)), .int .i64 0]

theorem zchd_ok {mn lo hi c free n : Int} (h : zchd mn lo hi c free n = 0) : 0 ≤ mn ∧ mn < lo ∧ lo < hi ∧ hi ≤ 256 ∧ 1 ≤ c ∧ c ≤ 3 ∧ 0 ≤ free ∧ free ≤ 256 ∧ 0 ≤ n ∧ n ≤ 256 := by
  unfold zchd at h
  by_cases h1 : zchk mn lo hi 256 ≠ 0
  · rw [if_pos h1] at h; exact absurd h h1
  · rw [if_neg h1] at h
    have h2 : zchk mn lo hi 256 = 0 := by simpa using h1
    clear h1
    unfold zchk at h2
    split at h <;> (try split at h) <;> (try omega)
    all_goals (repeat' split at h2) <;> omega

set_option maxHeartbeats 400000 in
theorem ask1 (w : World) :
    Calls Try.prog 38 #[.int .i64 1] w fun e w' => e = .returned (.agg #[.func (.func 46) #[] #[]]) ∧
      w' = (w.alloc (.cells #[.func (.func 46) #[] #[]] 60)).alloc (.cells #[.nilFunc, .func (.func 46) #[] #[], .func (.func 47) #[] #[], .func (.func 48) #[] #[]] 71) := by
  go_enter Try.func38, Try.ntmps38
  go_wp2
  exact bodyPost_ret (v := .agg #[.func (.func 46) #[] #[]]) (by simp [results, Try.results38, go_sem]) rfl ⟨rfl, rfl⟩

set_option maxHeartbeats 400000 in
theorem flo1 (mn lo hi : Int) (w : World) :
    Calls Try.prog 46 #[.agg #[.int .i64 mn, .int .i64 lo, .int .i64 hi]] w fun e w' => e = .returned (.int .i64 mn) ∧
      w' = w.alloc (.cells #[.int .i64 mn, .int .i64 lo, .int .i64 hi] 23) := by
  go_enter Try.func46, Try.ntmps46
  go_wp2
  go_ret
  exact ⟨rfl, rfl⟩

set_option maxHeartbeats 400000 in
theorem ask2 (w : World) :
    Calls Try.prog 38 #[.int .i64 2] w fun e w' => e = .returned (.agg #[.func (.func 47) #[] #[]]) ∧
      w' = (w.alloc (.cells #[.func (.func 47) #[] #[]] 60)).alloc (.cells #[.nilFunc, .func (.func 46) #[] #[], .func (.func 47) #[] #[], .func (.func 48) #[] #[]] 71) := by
  go_enter Try.func38, Try.ntmps38
  go_wp2
  exact bodyPost_ret (v := .agg #[.func (.func 47) #[] #[]]) (by simp [results, Try.results38, go_sem]) rfl ⟨rfl, rfl⟩

set_option maxHeartbeats 400000 in
theorem flo2 (mn lo hi : Int) (w : World) :
    Calls Try.prog 47 #[.agg #[.int .i64 mn, .int .i64 lo, .int .i64 hi]] w fun e w' => e = .returned (.int .i64 0) ∧
      w' = w.alloc (.cells #[.int .i64 mn, .int .i64 lo, .int .i64 hi] 23) := by
  go_enter Try.func47, Try.ntmps47
  go_wp2
  go_ret
  exact ⟨rfl, rfl⟩

set_option maxHeartbeats 400000 in
theorem ask3 (w : World) :
    Calls Try.prog 38 #[.int .i64 3] w fun e w' => e = .returned (.agg #[.func (.func 48) #[] #[]]) ∧
      w' = (w.alloc (.cells #[.func (.func 48) #[] #[]] 60)).alloc (.cells #[.nilFunc, .func (.func 46) #[] #[], .func (.func 47) #[] #[], .func (.func 48) #[] #[]] 71) := by
  go_enter Try.func38, Try.ntmps38
  go_wp2
  exact bodyPost_ret (v := .agg #[.func (.func 48) #[] #[]]) (by simp [results, Try.results38, go_sem]) rfl ⟨rfl, rfl⟩

set_option maxHeartbeats 400000 in
theorem flo3 (mn lo hi : Int) (w : World) :
    Calls Try.prog 48 #[.agg #[.int .i64 mn, .int .i64 lo, .int .i64 hi]] w fun e w' => e = .returned (.int .i64 hi) ∧
      w' = w.alloc (.cells #[.int .i64 mn, .int .i64 lo, .int .i64 hi] 23) := by
  go_enter Try.func48, Try.ntmps48
  go_wp2
  go_ret
  exact ⟨rfl, rfl⟩

theorem fld (f : Value) (w : World) : (Instr.field 60 (.agg #[f]) 0).run Try.prog w = .ok f w := by kernel_rfl

set_option maxRecDepth 100000 in
set_option maxHeartbeats 1000000 in
theorem Take_any (mn lo hi c free n : Int) (w : World) :
    Calls Try.prog 13 #[.agg #[.int .i64 mn, .int .i64 lo, .int .i64 hi], .int .i64 c, .int .i64 free, .int .i64 n] w fun e w' =>
      e = .returned (takeR mn lo hi c free n) ∧ Below w.heap.size w w' := by
  unfold takeR
  generalize hz : zchd mn lo hi c free n = z
  have HZ := Lib.hid hz
  by_cases h0 : z ≠ 0
  · rw [if_pos h0]
    have hne : (z != 0) = true := by simpa using h0
    clear hz h0
    go_enter Try.func13, Try.ntmps13
    go_wp2_with (first | (go_at_call 37; refine (checked_any _ _ _ _ _ _ _).mono ?_; rw [HZ.out]; rintro e w1 ⟨rfl, hb1⟩) | go_in)
    go_ret3
    exact ⟨rfl, (by repeat' (first | with_reducible exact Below.refl _ _ | with_reducible assumption | with_reducible apply Below.drew | with_reducible apply below_drewN | with_reducible apply Below.alloc | with_reducible apply Below.setCell | (with_reducible refine Below.trans ?_ (Below.mono (by assumption) ?_)) | (simp; done) | (simp; omega) | omega | with_reducible apply le_size_alloc | with_reducible apply le_size_drewN | with_reducible apply le_size_drew | with_reducible apply le_size_setCell | refine Nat.le_trans ?_ (Below.size (by assumption))))⟩
  obtain rfl : z = 0 := by omega
  obtain ⟨g1, g2, g3, g4, g5, g6, g7, g8, g9, g10⟩ := zchd_ok hz
  clear hz
  rw [if_neg h0]
  clear h0
  rcases (by omega : c = 1 ∨ c = 2 ∨ c = 3) with rfl | rfl | rfl
  · rw [show flo mn hi 1 = mn from rfl]
    have hfl := fld
    go_enter Try.func13, Try.ntmps13
    go_wp2_with (first | (go_at_call 37; refine (checked_any _ _ _ _ _ _ _).mono ?_; rw [HZ.out]; rintro e w1 ⟨rfl, hb1⟩) | (go_at_call 36; go_in))
    have hsz : w.heap.size < w1.heap.size := by have := hb1.size; simp at this; omega
    have hB0 : w1.cell? ⟨w.heap.size, 0, none⟩ = some (.int .i64 mn) := cell_keep hb1 (by simp) (by simp)
    have hB1 : w1.cell? ⟨w.heap.size, 1, none⟩ = some (.int .i64 lo) := cell_keep hb1 (by simp) (by simp)
    have hB2 : w1.cell? ⟨w.heap.size, 2, none⟩ = some (.int .i64 hi) := cell_keep hb1 (by simp) (by simp)
    go_region_held3 (fun W => W.cell? ⟨w.heap.size, 0, none⟩ = some (.int .i64 mn) ∧ W.cell? ⟨w.heap.size, 1, none⟩ = some (.int .i64 lo) ∧ W.cell? ⟨w.heap.size, 2, none⟩ = some (.int .i64 hi))
      (refine ⟨?_, ?_, ?_⟩ <;> (refine cell_keep (B := w.heap.size + 1) (a := w1) (by repeat' (first | with_reducible exact Below.refl _ _ | with_reducible assumption | with_reducible apply Below.drew | with_reducible apply below_drewN | with_reducible apply Below.alloc | with_reducible apply Below.setCell | (with_reducible refine Below.trans ?_ (Below.mono (by assumption) ?_)) | (simp; done) | (simp; omega) | omega | with_reducible apply le_size_alloc | with_reducible apply le_size_drewN | with_reducible apply le_size_drew | with_reducible apply le_size_setCell | refine Nat.le_trans ?_ (Below.size (by assumption)))) (by assumption) (by simp)))
      (first | (go_at_call 38; refine (ask1 _).mono ?_; rintro e w2 ⟨rfl, rfl⟩) | (go_at_call 46; refine (flo1 _ _ _ _).mono ?_; rintro e w2 ⟨rfl, rfl⟩))
    rw [show IntKind.i64.wrap (free - mn) = free - mn from IntWalk.i64_in _ (by omega)]
    generalize hgot : (if (if free - mn < 0 then 0 else free - mn) < n then (if free - mn < 0 then 0 else free - mn) else n) = got
    have HG : Hid (min n (max (free - mn) 0) = got) := by
      show _ = _
      rw [← hgot]; (repeat' split) <;> omega
    have hg0 : 0 ≤ got := by rw [← hgot]; (repeat' split) <;> omega
    have hg1 : got ≤ free := by rw [← hgot]; (repeat' split) <;> omega
    clear hgot
    go_wp2
    all_goals
      go_ret3
      exact ⟨by rw [HG.out]; rfl, (by repeat' (first | with_reducible exact Below.refl _ _ | with_reducible assumption | with_reducible apply Below.drew | with_reducible apply below_drewN | with_reducible apply Below.alloc | with_reducible apply Below.setCell | (with_reducible refine Below.trans ?_ (Below.mono (by assumption) ?_)) | (simp; done) | (simp; omega) | omega | with_reducible apply le_size_alloc | with_reducible apply le_size_drewN | with_reducible apply le_size_drew | with_reducible apply le_size_setCell | refine Nat.le_trans ?_ (Below.size (by assumption))))⟩
  · rw [show flo mn hi 2 = 0 from rfl]
    have hfl := fld
    go_enter Try.func13, Try.ntmps13
    go_wp2_with (first | (go_at_call 37; refine (checked_any _ _ _ _ _ _ _).mono ?_; rw [HZ.out]; rintro e w1 ⟨rfl, hb1⟩) | (go_at_call 36; go_in))
    have hsz : w.heap.size < w1.heap.size := by have := hb1.size; simp at this; omega
    have hB0 : w1.cell? ⟨w.heap.size, 0, none⟩ = some (.int .i64 mn) := cell_keep hb1 (by simp) (by simp)
    have hB1 : w1.cell? ⟨w.heap.size, 1, none⟩ = some (.int .i64 lo) := cell_keep hb1 (by simp) (by simp)
    have hB2 : w1.cell? ⟨w.heap.size, 2, none⟩ = some (.int .i64 hi) := cell_keep hb1 (by simp) (by simp)
    go_region_held3 (fun W => W.cell? ⟨w.heap.size, 0, none⟩ = some (.int .i64 mn) ∧ W.cell? ⟨w.heap.size, 1, none⟩ = some (.int .i64 lo) ∧ W.cell? ⟨w.heap.size, 2, none⟩ = some (.int .i64 hi))
      (refine ⟨?_, ?_, ?_⟩ <;> (refine cell_keep (B := w.heap.size + 1) (a := w1) (by repeat' (first | with_reducible exact Below.refl _ _ | with_reducible assumption | with_reducible apply Below.drew | with_reducible apply below_drewN | with_reducible apply Below.alloc | with_reducible apply Below.setCell | (with_reducible refine Below.trans ?_ (Below.mono (by assumption) ?_)) | (simp; done) | (simp; omega) | omega | with_reducible apply le_size_alloc | with_reducible apply le_size_drewN | with_reducible apply le_size_drew | with_reducible apply le_size_setCell | refine Nat.le_trans ?_ (Below.size (by assumption)))) (by assumption) (by simp)))
      (first | (go_at_call 38; refine (ask2 _).mono ?_; rintro e w2 ⟨rfl, rfl⟩) | (go_at_call 47; refine (flo2 _ _ _ _).mono ?_; rintro e w2 ⟨rfl, rfl⟩))
    rw [show IntKind.i64.wrap free = free from IntWalk.i64_in _ (by omega)]
    generalize hgot : (if (if free < 0 then 0 else free) < n then (if free < 0 then 0 else free) else n) = got
    have HG : Hid (min n (max free 0) = got) := by
      show _ = _
      rw [← hgot]; (repeat' split) <;> omega
    have hg0 : 0 ≤ got := by rw [← hgot]; (repeat' split) <;> omega
    have hg1 : got ≤ free := by rw [← hgot]; (repeat' split) <;> omega
    clear hgot
    go_wp2
    all_goals
      go_ret3
      exact ⟨by rw [HG.out]; rfl, (by repeat' (first | with_reducible exact Below.refl _ _ | with_reducible assumption | with_reducible apply Below.drew | with_reducible apply below_drewN | with_reducible apply Below.alloc | with_reducible apply Below.setCell | (with_reducible refine Below.trans ?_ (Below.mono (by assumption) ?_)) | (simp; done) | (simp; omega) | omega | with_reducible apply le_size_alloc | with_reducible apply le_size_drewN | with_reducible apply le_size_drew | with_reducible apply le_size_setCell | refine Nat.le_trans ?_ (Below.size (by assumption))))⟩
  · rw [show flo mn hi 3 = hi from rfl]
    have hfl := fld
    go_enter Try.func13, Try.ntmps13
    go_wp2_with (first | (go_at_call 37; refine (checked_any _ _ _ _ _ _ _).mono ?_; rw [HZ.out]; rintro e w1 ⟨rfl, hb1⟩) | (go_at_call 36; go_in))
    have hsz : w.heap.size < w1.heap.size := by have := hb1.size; simp at this; omega
    have hB0 : w1.cell? ⟨w.heap.size, 0, none⟩ = some (.int .i64 mn) := cell_keep hb1 (by simp) (by simp)
    have hB1 : w1.cell? ⟨w.heap.size, 1, none⟩ = some (.int .i64 lo) := cell_keep hb1 (by simp) (by simp)
    have hB2 : w1.cell? ⟨w.heap.size, 2, none⟩ = some (.int .i64 hi) := cell_keep hb1 (by simp) (by simp)
    go_region_held3 (fun W => W.cell? ⟨w.heap.size, 0, none⟩ = some (.int .i64 mn) ∧ W.cell? ⟨w.heap.size, 1, none⟩ = some (.int .i64 lo) ∧ W.cell? ⟨w.heap.size, 2, none⟩ = some (.int .i64 hi))
      (refine ⟨?_, ?_, ?_⟩ <;> (refine cell_keep (B := w.heap.size + 1) (a := w1) (by repeat' (first | with_reducible exact Below.refl _ _ | with_reducible assumption | with_reducible apply Below.drew | with_reducible apply below_drewN | with_reducible apply Below.alloc | with_reducible apply Below.setCell | (with_reducible refine Below.trans ?_ (Below.mono (by assumption) ?_)) | (simp; done) | (simp; omega) | omega | with_reducible apply le_size_alloc | with_reducible apply le_size_drewN | with_reducible apply le_size_drew | with_reducible apply le_size_setCell | refine Nat.le_trans ?_ (Below.size (by assumption)))) (by assumption) (by simp)))
      (first | (go_at_call 38; refine (ask3 _).mono ?_; rintro e w2 ⟨rfl, rfl⟩) | (go_at_call 48; refine (flo3 _ _ _ _).mono ?_; rintro e w2 ⟨rfl, rfl⟩))
    rw [show IntKind.i64.wrap (free - hi) = free - hi from IntWalk.i64_in _ (by omega)]
    generalize hgot : (if (if free - hi < 0 then 0 else free - hi) < n then (if free - hi < 0 then 0 else free - hi) else n) = got
    have HG : Hid (min n (max (free - hi) 0) = got) := by
      show _ = _
      rw [← hgot]; (repeat' split) <;> omega
    have hg0 : 0 ≤ got := by rw [← hgot]; (repeat' split) <;> omega
    have hg1 : got ≤ free := by rw [← hgot]; (repeat' split) <;> omega
    clear hgot
    go_wp2
    all_goals
      go_ret3
      exact ⟨by rw [HG.out]; rfl, (by repeat' (first | with_reducible exact Below.refl _ _ | with_reducible assumption | with_reducible apply Below.drew | with_reducible apply below_drewN | with_reducible apply Below.alloc | with_reducible apply Below.setCell | (with_reducible refine Below.trans ?_ (Below.mono (by assumption) ?_)) | (simp; done) | (simp; omega) | omega | with_reducible apply le_size_alloc | with_reducible apply le_size_drewN | with_reducible apply le_size_drew | with_reducible apply le_size_setCell | refine Nat.le_trans ?_ (Below.size (by assumption))))⟩
end Go.Proofs.Ytdkangjjiikdiaa
