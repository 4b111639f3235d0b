/- Contracts of the package zone: what is missing, levels, who is awake. -/
import Derived.Test.YtdkangjjiikdiaaZone2
namespace Go.Proofs.Ytdkangjjiikdiaa
set_option linter.unusedSimpArgs false
set_option linter.unusedVariables false
open Go.RowKit Go.Maps

/-- What Needs gives back. -/
def needsR (mn lo hi c free n : Int) : Value :=
  if zchd mn lo hi c free n ≠ 0 then .tuple #[.int .i64 0, .int .i64 (zchd mn lo hi c free n)]
  else if n = 0 then .tuple #[.int .i64 0, .int .i64 0] else .tuple #[.int .i64 (max (flo mn hi c + n - free) 0), .int .i64 0]

set_option maxRecDepth 100000 in
set_option maxHeartbeats 1000000 in
theorem Needs_any (mn lo hi c free n : Int) (w : World) :
    Calls Try.prog 15 #[.agg #[.int .i64 mn, .int .i64 lo, .int .i64 hi], .int .i64 c, .int .i64 free, .int .i64 n] w fun e w' =>
      e = .returned (needsR mn lo hi c free n) ∧ Below w.heap.size w w' := by
  unfold needsR
  generalize hz : zchd mn lo hi c free n = z
  have HZ := Lib.hid hz
  by_cases h0 : z ≠ 0
  · rw [if_pos h0]
    have hne : (z != 0) = true := by simpa using h0
    clear hz h0
    go_enter Try.func15, Try.ntmps15
    go_wp2_with (first | (go_at_call 37; refine (checked_any _ _ _ _ _ _ _).mono ?_; rw [HZ.out]; rintro e w1 ⟨rfl, hb1⟩) | go_in)
    go_ret2
    exact ⟨rfl, (by repeat' (first | with_reducible exact Below.refl _ _ | with_reducible assumption | with_reducible apply Below.drew | with_reducible apply below_drewN | with_reducible apply Below.alloc | with_reducible apply Below.setCell | (with_reducible refine Below.trans ?_ (Below.mono (by assumption) ?_)) | (simp; done) | (simp; omega) | omega | with_reducible apply le_size_alloc | with_reducible apply le_size_drewN | with_reducible apply le_size_drew | with_reducible apply le_size_setCell | refine Nat.le_trans ?_ (Below.size (by assumption))))⟩
  obtain rfl : z = 0 := by omega
  obtain ⟨g1, g2, g3, g4, g5, g6, g7, g8, g9, g10⟩ := zchd_ok hz
  clear hz
  rw [if_neg h0]
  clear h0
  by_cases hn : n = 0
  · subst hn
    rw [if_pos rfl]
    go_enter Try.func15, Try.ntmps15
    go_wp2_with (first | (go_at_call 37; refine (checked_any _ _ _ _ _ _ _).mono ?_; rw [HZ.out]; rintro e w1 ⟨rfl, hb1⟩) | (go_at_call 36; go_in))
    go_ret2
    exact ⟨rfl, (by repeat' (first | with_reducible exact Below.refl _ _ | with_reducible assumption | with_reducible apply Below.drew | with_reducible apply below_drewN | with_reducible apply Below.alloc | with_reducible apply Below.setCell | (with_reducible refine Below.trans ?_ (Below.mono (by assumption) ?_)) | (simp; done) | (simp; omega) | omega | with_reducible apply le_size_alloc | with_reducible apply le_size_drewN | with_reducible apply le_size_drew | with_reducible apply le_size_setCell | refine Nat.le_trans ?_ (Below.size (by assumption))))⟩
  rw [if_neg hn]
  have hn1 : 1 ≤ n := by omega
  clear hn
  rcases (by omega : c = 1 ∨ c = 2 ∨ c = 3) with rfl | rfl | rfl
  · rw [show flo mn hi 1 = mn from rfl]
    have hfl := fld
    go_enter Try.func15, Try.ntmps15
    go_wp2_with (first | (go_at_call 37; refine (checked_any _ _ _ _ _ _ _).mono ?_; rw [HZ.out]; rintro e w1 ⟨rfl, hb1⟩) | (go_at_call 36; go_in))
    have hsz : w.heap.size < w1.heap.size := by have := hb1.size; simp at this; omega
    have hB0 : w1.cell? ⟨w.heap.size, 0, none⟩ = some (.int .i64 mn) := cell_keep hb1 (by simp) (by simp)
    have hB1 : w1.cell? ⟨w.heap.size, 1, none⟩ = some (.int .i64 lo) := cell_keep hb1 (by simp) (by simp)
    have hB2 : w1.cell? ⟨w.heap.size, 2, none⟩ = some (.int .i64 hi) := cell_keep hb1 (by simp) (by simp)
    go_region_held3 (fun W => W.cell? ⟨w.heap.size, 0, none⟩ = some (.int .i64 mn) ∧ W.cell? ⟨w.heap.size, 1, none⟩ = some (.int .i64 lo) ∧ W.cell? ⟨w.heap.size, 2, none⟩ = some (.int .i64 hi))
      (refine ⟨?_, ?_, ?_⟩ <;> (refine cell_keep (B := w.heap.size + 1) (a := w1) (by repeat' (first | with_reducible exact Below.refl _ _ | with_reducible assumption | with_reducible apply Below.drew | with_reducible apply below_drewN | with_reducible apply Below.alloc | with_reducible apply Below.setCell | (with_reducible refine Below.trans ?_ (Below.mono (by assumption) ?_)) | (simp; done) | (simp; omega) | omega | with_reducible apply le_size_alloc | with_reducible apply le_size_drewN | with_reducible apply le_size_drew | with_reducible apply le_size_setCell | refine Nat.le_trans ?_ (Below.size (by assumption)))) (by assumption) (by simp)))
      (first | (go_at_call 38; refine (ask1 _).mono ?_; rintro e w2 ⟨rfl, rfl⟩) | (go_at_call 46; refine (flo1 _ _ _ _).mono ?_; rintro e w2 ⟨rfl, rfl⟩))
    rw [show IntKind.i64.wrap (mn + n) = mn + n from IntWalk.i64_in _ (by omega)]
    rw [show IntKind.i64.wrap (mn + n - free) = mn + n - free from IntWalk.i64_in _ (by omega)]
    generalize hgot : (if mn + n - free < 0 then 0 else mn + n - free) = got
    have HG : Hid (max (mn + n - free) 0 = got) := by
      show _ = _
      rw [← hgot]; (repeat' split) <;> omega
    clear hgot
    go_wp2
    all_goals
      go_ret2
      exact ⟨by first | (rw [HG.out]; rfl) | (rw [Int.zero_add, HG.out]; rfl), (by repeat' (first | with_reducible exact Below.refl _ _ | with_reducible assumption | with_reducible apply Below.drew | with_reducible apply below_drewN | with_reducible apply Below.alloc | with_reducible apply Below.setCell | (with_reducible refine Below.trans ?_ (Below.mono (by assumption) ?_)) | (simp; done) | (simp; omega) | omega | with_reducible apply le_size_alloc | with_reducible apply le_size_drewN | with_reducible apply le_size_drew | with_reducible apply le_size_setCell | refine Nat.le_trans ?_ (Below.size (by assumption))))⟩
  · rw [show flo mn hi 2 = 0 from rfl]
    have hfl := fld
    go_enter Try.func15, Try.ntmps15
    go_wp2_with (first | (go_at_call 37; refine (checked_any _ _ _ _ _ _ _).mono ?_; rw [HZ.out]; rintro e w1 ⟨rfl, hb1⟩) | (go_at_call 36; go_in))
    have hsz : w.heap.size < w1.heap.size := by have := hb1.size; simp at this; omega
    have hB0 : w1.cell? ⟨w.heap.size, 0, none⟩ = some (.int .i64 mn) := cell_keep hb1 (by simp) (by simp)
    have hB1 : w1.cell? ⟨w.heap.size, 1, none⟩ = some (.int .i64 lo) := cell_keep hb1 (by simp) (by simp)
    have hB2 : w1.cell? ⟨w.heap.size, 2, none⟩ = some (.int .i64 hi) := cell_keep hb1 (by simp) (by simp)
    go_region_held3 (fun W => W.cell? ⟨w.heap.size, 0, none⟩ = some (.int .i64 mn) ∧ W.cell? ⟨w.heap.size, 1, none⟩ = some (.int .i64 lo) ∧ W.cell? ⟨w.heap.size, 2, none⟩ = some (.int .i64 hi))
      (refine ⟨?_, ?_, ?_⟩ <;> (refine cell_keep (B := w.heap.size + 1) (a := w1) (by repeat' (first | with_reducible exact Below.refl _ _ | with_reducible assumption | with_reducible apply Below.drew | with_reducible apply below_drewN | with_reducible apply Below.alloc | with_reducible apply Below.setCell | (with_reducible refine Below.trans ?_ (Below.mono (by assumption) ?_)) | (simp; done) | (simp; omega) | omega | with_reducible apply le_size_alloc | with_reducible apply le_size_drewN | with_reducible apply le_size_drew | with_reducible apply le_size_setCell | refine Nat.le_trans ?_ (Below.size (by assumption)))) (by assumption) (by simp)))
      (first | (go_at_call 38; refine (ask2 _).mono ?_; rintro e w2 ⟨rfl, rfl⟩) | (go_at_call 47; refine (flo2 _ _ _ _).mono ?_; rintro e w2 ⟨rfl, rfl⟩))
    rw [show IntKind.i64.wrap n = n from IntWalk.i64_in _ (by omega)]
    rw [show IntKind.i64.wrap (n - free) = n - free from IntWalk.i64_in _ (by omega)]
    generalize hgot : (if n - free < 0 then 0 else n - free) = got
    have HG : Hid (max (n - free) 0 = got) := by
      show _ = _
      rw [← hgot]; (repeat' split) <;> omega
    clear hgot
    go_wp2
    all_goals
      go_ret2
      exact ⟨by first | (rw [HG.out]; rfl) | (rw [Int.zero_add, HG.out]; rfl), (by repeat' (first | with_reducible exact Below.refl _ _ | with_reducible assumption | with_reducible apply Below.drew | with_reducible apply below_drewN | with_reducible apply Below.alloc | with_reducible apply Below.setCell | (with_reducible refine Below.trans ?_ (Below.mono (by assumption) ?_)) | (simp; done) | (simp; omega) | omega | with_reducible apply le_size_alloc | with_reducible apply le_size_drewN | with_reducible apply le_size_drew | with_reducible apply le_size_setCell | refine Nat.le_trans ?_ (Below.size (by assumption))))⟩
  · rw [show flo mn hi 3 = hi from rfl]
    have hfl := fld
    go_enter Try.func15, Try.ntmps15
    go_wp2_with (first | (go_at_call 37; refine (checked_any _ _ _ _ _ _ _).mono ?_; rw [HZ.out]; rintro e w1 ⟨rfl, hb1⟩) | (go_at_call 36; go_in))
    have hsz : w.heap.size < w1.heap.size := by have := hb1.size; simp at this; omega
    have hB0 : w1.cell? ⟨w.heap.size, 0, none⟩ = some (.int .i64 mn) := cell_keep hb1 (by simp) (by simp)
    have hB1 : w1.cell? ⟨w.heap.size, 1, none⟩ = some (.int .i64 lo) := cell_keep hb1 (by simp) (by simp)
    have hB2 : w1.cell? ⟨w.heap.size, 2, none⟩ = some (.int .i64 hi) := cell_keep hb1 (by simp) (by simp)
    go_region_held3 (fun W => W.cell? ⟨w.heap.size, 0, none⟩ = some (.int .i64 mn) ∧ W.cell? ⟨w.heap.size, 1, none⟩ = some (.int .i64 lo) ∧ W.cell? ⟨w.heap.size, 2, none⟩ = some (.int .i64 hi))
      (refine ⟨?_, ?_, ?_⟩ <;> (refine cell_keep (B := w.heap.size + 1) (a := w1) (by repeat' (first | with_reducible exact Below.refl _ _ | with_reducible assumption | with_reducible apply Below.drew | with_reducible apply below_drewN | with_reducible apply Below.alloc | with_reducible apply Below.setCell | (with_reducible refine Below.trans ?_ (Below.mono (by assumption) ?_)) | (simp; done) | (simp; omega) | omega | with_reducible apply le_size_alloc | with_reducible apply le_size_drewN | with_reducible apply le_size_drew | with_reducible apply le_size_setCell | refine Nat.le_trans ?_ (Below.size (by assumption)))) (by assumption) (by simp)))
      (first | (go_at_call 38; refine (ask3 _).mono ?_; rintro e w2 ⟨rfl, rfl⟩) | (go_at_call 48; refine (flo3 _ _ _ _).mono ?_; rintro e w2 ⟨rfl, rfl⟩))
    rw [show IntKind.i64.wrap (hi + n) = hi + n from IntWalk.i64_in _ (by omega)]
    rw [show IntKind.i64.wrap (hi + n - free) = hi + n - free from IntWalk.i64_in _ (by omega)]
    generalize hgot : (if hi + n - free < 0 then 0 else hi + n - free) = got
    have HG : Hid (max (hi + n - free) 0 = got) := by
      show _ = _
      rw [← hgot]; (repeat' split) <;> omega
    clear hgot
    go_wp2
    all_goals
      go_ret2
      exact ⟨by first | (rw [HG.out]; rfl) | (rw [Int.zero_add, HG.out]; rfl), (by repeat' (first | with_reducible exact Below.refl _ _ | with_reducible assumption | with_reducible apply Below.drew | with_reducible apply below_drewN | with_reducible apply Below.alloc | with_reducible apply Below.setCell | (with_reducible refine Below.trans ?_ (Below.mono (by assumption) ?_)) | (simp; done) | (simp; omega) | omega | with_reducible apply le_size_alloc | with_reducible apply le_size_drewN | with_reducible apply le_size_drew | with_reducible apply le_size_setCell | refine Nat.le_trans ?_ (Below.size (by assumption))))⟩

/-- What May gives back. -/
def mayR (mn lo hi c free : Int) : Value :=
  .tuple #[.bool (decide (zchd mn lo hi c free 1 = 0 ∧ flo mn hi c < free)), .int .i64 (zchd mn lo hi c free 1)]

theorem takeR_form (mn lo hi c free n : Int) : ∃ got left, takeR mn lo hi c free n = .tuple #[.int .i64 got, .int .i64 left, .int .i64 (zchd mn lo hi c free n)] ∧
    (n = 1 → ((got == 1) = decide (zchd mn lo hi c free n = 0 ∧ flo mn hi c < free))) := by
  unfold takeR
  by_cases h : zchd mn lo hi c free n ≠ 0
  · rw [if_pos h]
    refine ⟨_, _, rfl, fun _ => ?_⟩
    simp [h]
  · have h' : zchd mn lo hi c free n = 0 := by simpa using h
    rw [if_neg h, h']
    refine ⟨_, _, rfl, fun hn => ?_⟩
    subst hn
    rw [Bool.eq_iff_iff]
    simp
    omega

set_option maxHeartbeats 400000 in
theorem May_any (mn lo hi c free : Int) (w : World) :
    Calls Try.prog 9 #[.agg #[.int .i64 mn, .int .i64 lo, .int .i64 hi], .int .i64 c, .int .i64 free] w fun e w' =>
      e = .returned (mayR mn lo hi c free) ∧ Below w.heap.size w w' := by
  obtain ⟨got, left, ht, hd⟩ := takeR_form mn lo hi c free 1
  have HT := Lib.hid ht; have HD := Lib.hid (hd rfl)
  clear ht hd
  unfold mayR
  generalize zchd mn lo hi c free 1 = z at *
  go_enter Try.func9, Try.ntmps9
  go_wp2_with (go_at_call 13; refine (Take_any _ _ _ _ _ _ _).mono ?_; rw [HT.out]; rintro e w1 ⟨rfl, hb1⟩)
  go_ret2
  exact ⟨by rw [← HD.out]; rfl, (by repeat' (first | with_reducible exact Below.refl _ _ | with_reducible assumption | with_reducible apply Below.drew | with_reducible apply below_drewN | with_reducible apply Below.alloc | with_reducible apply Below.setCell | (with_reducible refine Below.trans ?_ (Below.mono (by assumption) ?_)) | (simp; done) | (simp; omega) | omega | with_reducible apply le_size_alloc | with_reducible apply le_size_drewN | with_reducible apply le_size_drew | with_reducible apply le_size_setCell | refine Nat.le_trans ?_ (Below.size (by assumption))))⟩

/-- What Level and Awake give back. -/
def levelR (mn lo hi free : Int) : Value :=
  if zchd mn lo hi 1 free 0 ≠ 0 then .tuple #[.int .i64 0, .int .i64 (zchd mn lo hi 1 free 0)]
  else .tuple #[.int .i64 (if hi ≤ free then 0 else if lo ≤ free then 1 else if mn < free then 2 else 3), .int .i64 0]
def awakeR (mn lo hi free : Int) (was : Bool) : Value :=
  if zchd mn lo hi 1 free 0 ≠ 0 then .tuple #[.bool false, .int .i64 (zchd mn lo hi 1 free 0)]
  else .tuple #[.bool (decide (free < lo) || (decide (free < hi) && was)), .int .i64 0]

set_option maxHeartbeats 400000 in
theorem checkedFree_any (mn lo hi free : Int) (w : World) :
    Calls Try.prog 39 #[.agg #[.int .i64 mn, .int .i64 lo, .int .i64 hi], .int .i64 free] w fun e w' =>
      e = .returned (.int .i64 (zchd mn lo hi 1 free 0)) ∧ Below w.heap.size w w' := by
  go_enter Try.func39, Try.ntmps39
  go_wp2_with (go_at_call 37; refine (checked_any _ _ _ _ _ _ _).mono ?_; rintro e w1 ⟨rfl, hb1⟩)
  go_ret
  exact ⟨rfl, (by repeat' (first | with_reducible exact Below.refl _ _ | with_reducible assumption | with_reducible apply Below.drew | with_reducible apply below_drewN | with_reducible apply Below.alloc | with_reducible apply Below.setCell | (with_reducible refine Below.trans ?_ (Below.mono (by assumption) ?_)) | (simp; done) | (simp; omega) | omega | with_reducible apply le_size_alloc | with_reducible apply le_size_drewN | with_reducible apply le_size_drew | with_reducible apply le_size_setCell | refine Nat.le_trans ?_ (Below.size (by assumption))))⟩

set_option maxHeartbeats 1000000 in
theorem Level_any (mn lo hi free : Int) (w : World) :
    Calls Try.prog 18 #[.agg #[.int .i64 mn, .int .i64 lo, .int .i64 hi], .int .i64 free] w fun e w' =>
      e = .returned (levelR mn lo hi free) ∧ Below w.heap.size w w' := by
  unfold levelR
  generalize hz : zchd mn lo hi 1 free 0 = z
  have HZ := Lib.hid hz
  by_cases h0 : z ≠ 0
  · rw [if_pos h0]
    have hne : (z != 0) = true := by simpa using h0
    clear hz h0
    go_enter Try.func18, Try.ntmps18
    go_wp2_with (go_at_call 39; refine (checkedFree_any _ _ _ _ _).mono ?_; rw [HZ.out]; rintro e w1 ⟨rfl, hb1⟩)
    go_ret2
    exact ⟨rfl, (by repeat' (first | with_reducible exact Below.refl _ _ | with_reducible assumption | with_reducible apply Below.drew | with_reducible apply below_drewN | with_reducible apply Below.alloc | with_reducible apply Below.setCell | (with_reducible refine Below.trans ?_ (Below.mono (by assumption) ?_)) | (simp; done) | (simp; omega) | omega | with_reducible apply le_size_alloc | with_reducible apply le_size_drewN | with_reducible apply le_size_drew | with_reducible apply le_size_setCell | refine Nat.le_trans ?_ (Below.size (by assumption))))⟩
  obtain rfl : z = 0 := by omega
  obtain ⟨g1, g2, g3, g4, g5, g6, g7, g8, g9, g10⟩ := zchd_ok hz
  clear hz
  rw [if_neg h0]
  clear h0
  rcases (by omega : hi ≤ free ∨ (free < hi ∧ lo ≤ free) ∨ (free < hi ∧ free < lo ∧ mn < free) ∨ (free < hi ∧ free < lo ∧ free ≤ mn)) with d1 | ⟨d1, d2⟩ | ⟨d1, d2, d3⟩ | ⟨d1, d2, d3⟩
  all_goals
    go_enter Try.func18, Try.ntmps18
    go_wp2_with fail
    refine (checkedFree_any _ _ _ _ _).mono ?_
    rw [HZ.out]
    rintro e w1 ⟨rfl, hb1⟩
    have hB0 : w1.cell? ⟨w.heap.size, 0, none⟩ = some (.int .i64 mn) := cell_keep hb1 (by simp) (by simp)
    have hB1 : w1.cell? ⟨w.heap.size, 1, none⟩ = some (.int .i64 lo) := cell_keep hb1 (by simp) (by simp)
    have hB2 : w1.cell? ⟨w.heap.size, 2, none⟩ = some (.int .i64 hi) := cell_keep hb1 (by simp) (by simp)
    go_wp2
    go_ret2
    refine ⟨congrArg Ending.returned ?_, (by repeat' (first | with_reducible exact Below.refl _ _ | with_reducible assumption | with_reducible apply Below.drew | with_reducible apply below_drewN | with_reducible apply Below.alloc | with_reducible apply Below.setCell | (with_reducible refine Below.trans ?_ (Below.mono (by assumption) ?_)) | (simp; done) | (simp; omega) | omega | with_reducible apply le_size_alloc | with_reducible apply le_size_drewN | with_reducible apply le_size_drew | with_reducible apply le_size_setCell | refine Nat.le_trans ?_ (Below.size (by assumption))))⟩
    congr 3

set_option maxHeartbeats 1000000 in
theorem Awake_any (mn lo hi free : Int) (was : Bool) (w : World) :
    Calls Try.prog 20 #[.agg #[.int .i64 mn, .int .i64 lo, .int .i64 hi], .int .i64 free, .bool was] w fun e w' =>
      e = .returned (awakeR mn lo hi free was) ∧ Below w.heap.size w w' := by
  unfold awakeR
  generalize hz : zchd mn lo hi 1 free 0 = z
  have HZ := Lib.hid hz
  by_cases h0 : z ≠ 0
  · rw [if_pos h0]
    have hne : (z != 0) = true := by simpa using h0
    clear hz h0
    go_enter Try.func20, Try.ntmps20
    go_wp2_with (go_at_call 39; refine (checkedFree_any _ _ _ _ _).mono ?_; rw [HZ.out]; rintro e w1 ⟨rfl, hb1⟩)
    go_ret2
    exact ⟨rfl, (by repeat' (first | with_reducible exact Below.refl _ _ | with_reducible assumption | with_reducible apply Below.drew | with_reducible apply below_drewN | with_reducible apply Below.alloc | with_reducible apply Below.setCell | (with_reducible refine Below.trans ?_ (Below.mono (by assumption) ?_)) | (simp; done) | (simp; omega) | omega | with_reducible apply le_size_alloc | with_reducible apply le_size_drewN | with_reducible apply le_size_drew | with_reducible apply le_size_setCell | refine Nat.le_trans ?_ (Below.size (by assumption))))⟩
  obtain rfl : z = 0 := by omega
  obtain ⟨g1, g2, g3, g4, g5, g6, g7, g8, g9, g10⟩ := zchd_ok hz
  clear hz
  rw [if_neg h0]
  clear h0
  rcases (by omega : free < lo ∨ (lo ≤ free ∧ free < hi) ∨ (lo ≤ free ∧ hi ≤ free)) with d1 | ⟨d1, d2⟩ | ⟨d1, d2⟩
  all_goals
    go_enter Try.func20, Try.ntmps20
    go_wp2_with fail
    refine (checkedFree_any _ _ _ _ _).mono ?_
    rw [HZ.out]
    rintro e w1 ⟨rfl, hb1⟩
    have hB0 : w1.cell? ⟨w.heap.size, 0, none⟩ = some (.int .i64 mn) := cell_keep hb1 (by simp) (by simp)
    have hB1 : w1.cell? ⟨w.heap.size, 1, none⟩ = some (.int .i64 lo) := cell_keep hb1 (by simp) (by simp)
    have hB2 : w1.cell? ⟨w.heap.size, 2, none⟩ = some (.int .i64 hi) := cell_keep hb1 (by simp) (by simp)
    go_wp2
    go_ret2
    refine ⟨congrArg Ending.returned ?_, (by repeat' (first | with_reducible exact Below.refl _ _ | with_reducible assumption | with_reducible apply Below.drew | with_reducible apply below_drewN | with_reducible apply Below.alloc | with_reducible apply Below.setCell | (with_reducible refine Below.trans ?_ (Below.mono (by assumption) ?_)) | (simp; done) | (simp; omega) | omega | with_reducible apply le_size_alloc | with_reducible apply le_size_drewN | with_reducible apply le_size_drew | with_reducible apply le_size_setCell | refine Nat.le_trans ?_ (Below.size (by assumption))))⟩
    congr 3
    congr 1
    first | (simp [d1, d2]; done) | (simp [d1]; done) | (simp; intro h; omega)
end Go.Proofs.Ytdkangjjiikdiaa
