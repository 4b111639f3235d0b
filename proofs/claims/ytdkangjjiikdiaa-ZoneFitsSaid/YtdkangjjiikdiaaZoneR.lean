/- Contracts of the reference of zone. -/
import Derived.Test.YtdkangjjiikdiaaZone3
namespace Go.Proofs.Ytdkangjjiikdiaa
set_option linter.unusedSimpArgs false
set_option linter.unusedVariables false
open Go.RowKit Go.Maps

theorem ret_pair_int {a b c : Int} (h : a = b) : Ending.returned (.tuple #[.int .i64 a, .int .i64 c]) = .returned (.tuple #[.int .i64 b, .int .i64 c]) := by rw [h]

set_option maxHeartbeats 1000000 in
theorem rCheck_any (mn lo hi fr : Int) (w : World) :
    Calls Try.prog 12 #[.agg #[.int .i64 mn, .int .i64 lo, .int .i64 hi], .int .i64 fr] w fun e w' => e = .returned (.int .i64 (zchk mn lo hi fr)) ∧ Below w.heap.size w w' := by
  have cases6 : (fr < 1) ∨ (1 ≤ fr ∧ 256 < fr) ∨ (1 ≤ fr ∧ fr ≤ 256 ∧ mn < 0) ∨ (1 ≤ fr ∧ fr ≤ 256 ∧ 0 ≤ mn ∧ fr < hi) ∨ (1 ≤ fr ∧ fr ≤ 256 ∧ 0 ≤ mn ∧ hi ≤ fr ∧ lo ≤ mn) ∨
      (1 ≤ fr ∧ fr ≤ 256 ∧ 0 ≤ mn ∧ hi ≤ fr ∧ mn < lo ∧ hi ≤ lo) ∨ (1 ≤ fr ∧ fr ≤ 256 ∧ 0 ≤ mn ∧ hi ≤ fr ∧ mn < lo ∧ lo < hi) := by omega
  generalize hz : zchk mn lo hi fr = z
  have HZ : Hid (z = if fr < 1 ∨ 256 < fr then 2 else if mn < 0 ∨ fr < hi then 2 else if mn < lo ∧ lo < hi then 0 else 8) := hz.symm
  clear hz
  rcases cases6 with d1 | ⟨d1, d2⟩ | ⟨d1, d2, d3⟩ | ⟨d1, d2, d3, d4⟩ | ⟨d1, d2, d3, d4, d5⟩ | ⟨d1, d2, d3, d4, d5, d6⟩ | ⟨d1, d2, d3, d4, d5, d6⟩
  all_goals
    go_enter Try.func12, Try.ntmps12
    go_wp2
    go_ret
    refine ⟨ret_int ?_, (by repeat' (first | with_reducible exact Below.refl _ _ | with_reducible assumption | with_reducible apply Below.drew | with_reducible apply below_drewN | with_reducible apply Below.alloc | with_reducible apply Below.setCell | (with_reducible refine Below.trans ?_ (Below.mono (by assumption) ?_)) | (simp; done) | (simp; omega) | omega | with_reducible apply le_size_alloc | with_reducible apply le_size_drewN | with_reducible apply le_size_drew | with_reducible apply le_size_setCell | refine Nat.le_trans ?_ (Below.size (by assumption))))⟩
    rw [HZ.out]
    (repeat' split) <;> omega

set_option maxHeartbeats 1000000 in
theorem rasked_any (mn lo hi c free n : Int) (w : World) :
    Calls Try.prog 32 #[.agg #[.int .i64 mn, .int .i64 lo, .int .i64 hi], .int .i64 c, .int .i64 free, .int .i64 n] w fun e w' =>
      e = .returned (.int .i64 (zchd mn lo hi c free n)) ∧ Below w.heap.size w w' := by
  generalize hz : zchk mn lo hi 256 = z
  have HZ := Lib.hid hz
  by_cases h0 : z ≠ 0
  · have hr : Hid (zchd mn lo hi c free n = z) := by show _ = _; rw [zchd, hz, if_pos h0]
    have hne : (z != 0) = true := by simpa using h0
    clear hz h0
    go_enter Try.func32, Try.ntmps32
    go_wp2_with (go_at_call 12; refine (rCheck_any _ _ _ _ _).mono ?_; rw [HZ.out]; rintro e w1 ⟨rfl, hb1⟩)
    go_ret
    exact ⟨ret_int hr.out.symm, (by repeat' (first | with_reducible exact Below.refl _ _ | with_reducible assumption | with_reducible apply Below.drew | with_reducible apply below_drewN | with_reducible apply Below.alloc | with_reducible apply Below.setCell | (with_reducible refine Below.trans ?_ (Below.mono (by assumption) ?_)) | (simp; done) | (simp; omega) | omega | with_reducible apply le_size_alloc | with_reducible apply le_size_drewN | with_reducible apply le_size_drew | with_reducible apply le_size_setCell | refine Nat.le_trans ?_ (Below.size (by assumption))))⟩
  obtain rfl : z = 0 := by omega
  have hr : Hid (zchd mn lo hi c free n = if c < 1 ∨ 3 < c then 16 else if 0 ≤ free ∧ free ≤ 256 ∧ 0 ≤ n ∧ n ≤ 256 then 0 else 2) := by show _ = _; rw [zchd, hz, if_neg h0]
  clear hz h0
  rcases (by omega : (c < 1) ∨ (1 ≤ c ∧ 3 < c) ∨ (1 ≤ c ∧ c ≤ 3 ∧ free < 0) ∨ (1 ≤ c ∧ c ≤ 3 ∧ 0 ≤ free ∧ 256 < free) ∨ (1 ≤ c ∧ c ≤ 3 ∧ 0 ≤ free ∧ free ≤ 256 ∧ n < 0) ∨
      (1 ≤ c ∧ c ≤ 3 ∧ 0 ≤ free ∧ free ≤ 256 ∧ 0 ≤ n ∧ 256 < n) ∨ (1 ≤ c ∧ c ≤ 3 ∧ 0 ≤ free ∧ free ≤ 256 ∧ 0 ≤ n ∧ n ≤ 256)) with
    d1 | ⟨d1, d2⟩ | ⟨d1, d2, d3⟩ | ⟨d1, d2, d3, d4⟩ | ⟨d1, d2, d3, d4, d5⟩ | ⟨d1, d2, d3, d4, d5, d6⟩ | ⟨d1, d2, d3, d4, d5, d6⟩
  all_goals
    go_enter Try.func32, Try.ntmps32
    go_wp2_with (go_at_call 12; refine (rCheck_any _ _ _ _ _).mono ?_; rw [HZ.out]; rintro e w1 ⟨rfl, hb1⟩)
    go_ret
    refine ⟨ret_int ?_, (by repeat' (first | with_reducible exact Below.refl _ _ | with_reducible assumption | with_reducible apply Below.drew | with_reducible apply below_drewN | with_reducible apply Below.alloc | with_reducible apply Below.setCell | (with_reducible refine Below.trans ?_ (Below.mono (by assumption) ?_)) | (simp; done) | (simp; omega) | omega | with_reducible apply le_size_alloc | with_reducible apply le_size_drewN | with_reducible apply le_size_drew | with_reducible apply le_size_setCell | refine Nat.le_trans ?_ (Below.size (by assumption))))⟩
    rw [hr.out]
    (repeat' split) <;> omega

set_option maxHeartbeats 400000 in
theorem rleast_any (mn lo hi c : Int) (w : World) (h1 : 1 ≤ c) (h2 : c ≤ 3) :
    Calls Try.prog 33 #[.agg #[.int .i64 mn, .int .i64 lo, .int .i64 hi], .int .i64 c] w fun e w' => e = .returned (.int .i64 (flo mn hi c)) ∧ Below w.heap.size w w' := by
  rcases (by omega : c = 1 ∨ c = 2 ∨ c = 3) with rfl | rfl | rfl
  all_goals
    go_enter Try.func33, Try.ntmps33
    go_wp2
    go_ret
    exact ⟨rfl, (by repeat' (first | with_reducible exact Below.refl _ _ | with_reducible assumption | with_reducible apply Below.drew | with_reducible apply below_drewN | with_reducible apply Below.alloc | with_reducible apply Below.setCell | (with_reducible refine Below.trans ?_ (Below.mono (by assumption) ?_)) | (simp; done) | (simp; omega) | omega | with_reducible apply le_size_alloc | with_reducible apply le_size_drewN | with_reducible apply le_size_drew | with_reducible apply le_size_setCell | refine Nat.le_trans ?_ (Below.size (by assumption))))⟩

theorem flo_bd {mn lo hi c : Int} (h1 : 0 ≤ mn) (h2 : mn < lo) (h3 : lo < hi) (h4 : hi ≤ 256) : 0 ≤ flo mn hi c ∧ flo mn hi c ≤ 256 := by
  unfold flo; (repeat' split) <;> omega
theorem zchd_n {mn lo hi c free n m : Int} (h : 0 ≤ n ∧ n ≤ 256) (h' : 0 ≤ m ∧ m ≤ 256) : zchd mn lo hi c free n = zchd mn lo hi c free m := by
  unfold zchd
  split
  · rfl
  · split
    · rfl
    · (repeat' split) <;> omega

set_option maxHeartbeats 1000000 in
theorem rMay_any (mn lo hi c free : Int) (w : World) :
    Calls Try.prog 10 #[.agg #[.int .i64 mn, .int .i64 lo, .int .i64 hi], .int .i64 c, .int .i64 free] w fun e w' =>
      e = .returned (mayR mn lo hi c free) ∧ Below w.heap.size w w' := by
  unfold mayR
  rw [zchd_n (n := 1) (m := 0) (by omega) (by omega)]
  generalize hz : zchd mn lo hi c free 0 = z
  have HZ := Lib.hid hz
  by_cases h0 : z ≠ 0
  · have hne : (z != 0) = true := by simpa using h0
    have hd : Hid (decide (z = 0 ∧ flo mn hi c < free) = false) := by show _ = _; simp [h0]
    clear hz h0
    go_enter Try.func10, Try.ntmps10
    go_wp2_with (go_at_call 32; refine (rasked_any _ _ _ _ _ _ _).mono ?_; rw [HZ.out]; rintro e w1 ⟨rfl, hb1⟩)
    go_ret2
    exact ⟨by rw [hd.out]; rfl, (by repeat' (first | with_reducible exact Below.refl _ _ | with_reducible assumption | with_reducible apply Below.drew | with_reducible apply below_drewN | with_reducible apply Below.alloc | with_reducible apply Below.setCell | (with_reducible refine Below.trans ?_ (Below.mono (by assumption) ?_)) | (simp; done) | (simp; omega) | omega | with_reducible apply le_size_alloc | with_reducible apply le_size_drewN | with_reducible apply le_size_drew | with_reducible apply le_size_setCell | refine Nat.le_trans ?_ (Below.size (by assumption))))⟩
  obtain rfl : z = 0 := by omega
  obtain ⟨g1, g2, g3, g4, g5, g6, g7, g8, g9, g10⟩ := zchd_ok hz
  clear hz h0
  go_enter Try.func10, Try.ntmps10
  go_wp2_with fail
  refine (rasked_any _ _ _ _ _ _ _).mono ?_
  rw [HZ.out]
  rintro e w1 ⟨rfl, hb1⟩
  have hB0 : w1.cell? ⟨w.heap.size, 0, none⟩ = some (.int .i64 mn) := cell_keep hb1 (by simp) (by simp)
  have hB1 : w1.cell? ⟨w.heap.size, 1, none⟩ = some (.int .i64 lo) := cell_keep hb1 (by simp) (by simp)
  have hB2 : w1.cell? ⟨w.heap.size, 2, none⟩ = some (.int .i64 hi) := cell_keep hb1 (by simp) (by simp)
  go_wp2_with (go_at_call 33; refine (rleast_any _ _ _ _ _ (by omega) (by omega)).mono ?_; rintro e w2 ⟨rfl, hb2⟩)
  go_ret2
  exact ⟨by simp, (by repeat' (first | with_reducible exact Below.refl _ _ | with_reducible assumption | with_reducible apply Below.drew | with_reducible apply below_drewN | with_reducible apply Below.alloc | with_reducible apply Below.setCell | (with_reducible refine Below.trans ?_ (Below.mono (by assumption) ?_)) | (simp; done) | (simp; omega) | omega | with_reducible apply le_size_alloc | with_reducible apply le_size_drewN | with_reducible apply le_size_drew | with_reducible apply le_size_setCell | refine Nat.le_trans ?_ (Below.size (by assumption))))⟩

set_option maxRecDepth 100000 in
set_option maxHeartbeats 1000000 in
theorem rNeeds_any (mn lo hi c free n : Int) (w : World) :
    Calls Try.prog 16 #[.agg #[.int .i64 mn, .int .i64 lo, .int .i64 hi], .int .i64 c, .int .i64 free, .int .i64 n] w fun e w' =>
      e = .returned (needsR mn lo hi c free n) ∧ Below w.heap.size w w' := by
  unfold needsR
  generalize hz : zchd mn lo hi c free n = z
  have HZ := Lib.hid hz
  by_cases h0 : z ≠ 0
  · rw [if_pos h0]
    have hne : (z != 0) = true := by simpa using h0
    clear hz h0
    go_enter Try.func16, Try.ntmps16
    go_wp2_with (go_at_call 32; refine (rasked_any _ _ _ _ _ _ _).mono ?_; rw [HZ.out]; rintro e w1 ⟨rfl, hb1⟩)
    go_ret2
    exact ⟨rfl, (by repeat' (first | with_reducible exact Below.refl _ _ | with_reducible assumption | with_reducible apply Below.drew | with_reducible apply below_drewN | with_reducible apply Below.alloc | with_reducible apply Below.setCell | (with_reducible refine Below.trans ?_ (Below.mono (by assumption) ?_)) | (simp; done) | (simp; omega) | omega | with_reducible apply le_size_alloc | with_reducible apply le_size_drewN | with_reducible apply le_size_drew | with_reducible apply le_size_setCell | refine Nat.le_trans ?_ (Below.size (by assumption))))⟩
  obtain rfl : z = 0 := by omega
  obtain ⟨g1, g2, g3, g4, g5, g6, g7, g8, g9, g10⟩ := zchd_ok hz
  clear hz
  rw [if_neg h0]
  clear h0
  by_cases hn : n = 0
  · subst hn
    rw [if_pos rfl]
    go_enter Try.func16, Try.ntmps16
    go_wp2_with (go_at_call 32; refine (rasked_any _ _ _ _ _ _ _).mono ?_; rw [HZ.out]; rintro e w1 ⟨rfl, hb1⟩)
    go_ret2
    exact ⟨rfl, (by repeat' (first | with_reducible exact Below.refl _ _ | with_reducible assumption | with_reducible apply Below.drew | with_reducible apply below_drewN | with_reducible apply Below.alloc | with_reducible apply Below.setCell | (with_reducible refine Below.trans ?_ (Below.mono (by assumption) ?_)) | (simp; done) | (simp; omega) | omega | with_reducible apply le_size_alloc | with_reducible apply le_size_drewN | with_reducible apply le_size_drew | with_reducible apply le_size_setCell | refine Nat.le_trans ?_ (Below.size (by assumption))))⟩
  rw [if_neg hn]
  have hn1 : 1 ≤ n := by omega
  clear hn
  obtain ⟨f1, f2⟩ := flo_bd (c := c) g1 g2 g3 g4
  go_enter Try.func16, Try.ntmps16
  go_wp2_with fail
  refine (rasked_any _ _ _ _ _ _ _).mono ?_
  rw [HZ.out]
  rintro e w1 ⟨rfl, hb1⟩
  have hB0 : w1.cell? ⟨w.heap.size, 0, none⟩ = some (.int .i64 mn) := cell_keep hb1 (by simp) (by simp)
  have hB1 : w1.cell? ⟨w.heap.size, 1, none⟩ = some (.int .i64 lo) := cell_keep hb1 (by simp) (by simp)
  have hB2 : w1.cell? ⟨w.heap.size, 2, none⟩ = some (.int .i64 hi) := cell_keep hb1 (by simp) (by simp)
  go_wp2_with (go_at_call 33; refine (rleast_any _ _ _ _ _ (by omega) (by omega)).mono ?_; rintro e w2 ⟨rfl, hb2⟩)
  all_goals
    go_ret2
    exact ⟨ret_pair_int (by omega), (by repeat' (first | with_reducible exact Below.refl _ _ | with_reducible assumption | with_reducible apply Below.drew | with_reducible apply below_drewN | with_reducible apply Below.alloc | with_reducible apply Below.setCell | (with_reducible refine Below.trans ?_ (Below.mono (by assumption) ?_)) | (simp; done) | (simp; omega) | omega | with_reducible apply le_size_alloc | with_reducible apply le_size_drewN | with_reducible apply le_size_drew | with_reducible apply le_size_setCell | refine Nat.le_trans ?_ (Below.size (by assumption))))⟩

set_option maxRecDepth 100000 in
set_option maxHeartbeats 1000000 in
theorem rTake_any (mn lo hi c free n : Int) (w : World) :
    Calls Try.prog 14 #[.agg #[.int .i64 mn, .int .i64 lo, .int .i64 hi], .int .i64 c, .int .i64 free, .int .i64 n] w fun e w' =>
      e = .returned (takeR mn lo hi c free n) ∧ Below w.heap.size w w' := by
  unfold takeR
  generalize hz : zchd mn lo hi c free n = z
  have HZ := Lib.hid hz
  by_cases h0 : z ≠ 0
  · rw [if_pos h0]
    have hne : (z != 0) = true := by simpa using h0
    clear hz h0
    go_enter Try.func14, Try.ntmps14
    go_wp2_with (go_at_call 32; refine (rasked_any _ _ _ _ _ _ _).mono ?_; rw [HZ.out]; rintro e w1 ⟨rfl, hb1⟩)
    go_ret3
    exact ⟨rfl, (by repeat' (first | with_reducible exact Below.refl _ _ | with_reducible assumption | with_reducible apply Below.drew | with_reducible apply below_drewN | with_reducible apply Below.alloc | with_reducible apply Below.setCell | (with_reducible refine Below.trans ?_ (Below.mono (by assumption) ?_)) | (simp; done) | (simp; omega) | omega | with_reducible apply le_size_alloc | with_reducible apply le_size_drewN | with_reducible apply le_size_drew | with_reducible apply le_size_setCell | refine Nat.le_trans ?_ (Below.size (by assumption))))⟩
  obtain rfl : z = 0 := by omega
  obtain ⟨g1, g2, g3, g4, g5, g6, g7, g8, g9, g10⟩ := zchd_ok hz
  clear hz
  rw [if_neg h0]
  clear h0
  obtain ⟨f1, f2⟩ := flo_bd (c := c) g1 g2 g3 g4
  generalize hq : flo mn hi c = q at *
  have HQ := Lib.hid hq
  clear hq
  go_enter Try.func14, Try.ntmps14
  go_wp2_with fail
  refine (rasked_any _ _ _ _ _ _ _).mono ?_
  rw [HZ.out]
  rintro e w1 ⟨rfl, hb1⟩
  have hB0 : w1.cell? ⟨w.heap.size, 0, none⟩ = some (.int .i64 mn) := cell_keep hb1 (by simp) (by simp)
  have hB1 : w1.cell? ⟨w.heap.size, 1, none⟩ = some (.int .i64 lo) := cell_keep hb1 (by simp) (by simp)
  have hB2 : w1.cell? ⟨w.heap.size, 2, none⟩ = some (.int .i64 hi) := cell_keep hb1 (by simp) (by simp)
  go_wp2
  go_loopw [2, 12] (fun f i wr => ∃ k : Int, 0 ≤ k ∧ k ≤ n ∧ (k = 0 ∨ q ≤ free - k) ∧ i = .int .i64 k ∧ f = .int .i64 (free - k) ∧ Below w1.heap.size w1 wr) (fun _ i _ => 300 - (intOf i).toNat)
  case atStart => exact ⟨0, by omega, by omega, .inl rfl, rfl, by simp, Below.refl _ _⟩
  case round =>
    obtain ⟨k, k0, k1, k2, rfl, rfl, hbr⟩ := hrel
    have hsz : w.heap.size < w1.heap.size := by have := hb1.size; simp at this; omega
    have hC0 : wr.cell? ⟨w.heap.size, 0, none⟩ = some (.int .i64 mn) := cell_keep hbr hB0 hsz
    have hC1 : wr.cell? ⟨w.heap.size, 1, none⟩ = some (.int .i64 lo) := cell_keep hbr hB1 hsz
    have hC2 : wr.cell? ⟨w.heap.size, 2, none⟩ = some (.int .i64 hi) := cell_keep hbr hB2 hsz
    clear hB0 hB1 hB2
    by_cases hlt : k < n
    · by_cases hgt : q < free - k
      · go_wp2_with (go_at_call 33; refine (rleast_any _ _ _ _ _ (by omega) (by omega)).mono ?_; rw [HQ.out]; rintro e w2 ⟨rfl, hb2⟩)
        go_roundw
        case rel => exact ⟨k + 1, by omega, by omega, .inr (by omega), rfl, by congr 1; omega, (by repeat' (first | with_reducible exact Below.refl _ _ | with_reducible assumption | with_reducible apply Below.drew | with_reducible apply below_drewN | with_reducible apply Below.alloc | with_reducible apply Below.setCell | (with_reducible refine Below.trans ?_ (Below.mono (by assumption) ?_)) | (simp; done) | (simp; omega) | omega | with_reducible apply le_size_alloc | with_reducible apply le_size_drewN | with_reducible apply le_size_drew | with_reducible apply le_size_setCell | refine Nat.le_trans ?_ (Below.size (by assumption))))⟩
        case measure => simp [intOf]; omega
      · go_wp2_with (go_at_call 33; refine (rleast_any _ _ _ _ _ (by omega) (by omega)).mono ?_; rw [HQ.out]; rintro e w2 ⟨rfl, hb2⟩)
        go_ret3
        have e : min n (max (free - q) 0) = k := by omega
        exact ⟨by rw [e]; rfl, (by repeat' (first | with_reducible exact Below.refl _ _ | with_reducible assumption | with_reducible apply Below.drew | with_reducible apply below_drewN | with_reducible apply Below.alloc | with_reducible apply Below.setCell | (with_reducible refine Below.trans ?_ (Below.mono (by assumption) ?_)) | (simp; done) | (simp; omega) | omega | with_reducible apply le_size_alloc | with_reducible apply le_size_drewN | with_reducible apply le_size_drew | with_reducible apply le_size_setCell | refine Nat.le_trans ?_ (Below.size (by assumption))))⟩
    · go_wp2
      go_ret3
      have e : min n (max (free - q) 0) = k := by omega
      exact ⟨by rw [e]; rfl, (by repeat' (first | with_reducible exact Below.refl _ _ | with_reducible assumption | with_reducible apply Below.drew | with_reducible apply below_drewN | with_reducible apply Below.alloc | with_reducible apply Below.setCell | (with_reducible refine Below.trans ?_ (Below.mono (by assumption) ?_)) | (simp; done) | (simp; omega) | omega | with_reducible apply le_size_alloc | with_reducible apply le_size_drewN | with_reducible apply le_size_drew | with_reducible apply le_size_setCell | refine Nat.le_trans ?_ (Below.size (by assumption))))⟩

set_option maxHeartbeats 1000000 in
theorem rLevel_any (mn lo hi free : Int) (w : World) :
    Calls Try.prog 19 #[.agg #[.int .i64 mn, .int .i64 lo, .int .i64 hi], .int .i64 free] w fun e w' =>
      e = .returned (levelR mn lo hi free) ∧ Below w.heap.size w w' := by
  unfold levelR
  generalize hz : zchd mn lo hi 1 free 0 = z
  have HZ := Lib.hid hz
  by_cases h0 : z ≠ 0
  · rw [if_pos h0]
    have hne : (z != 0) = true := by simpa using h0
    clear hz h0
    go_enter Try.func19, Try.ntmps19
    go_wp2_with (go_at_call 32; refine (rasked_any _ _ _ _ _ _ _).mono ?_; rw [HZ.out]; rintro e w1 ⟨rfl, hb1⟩)
    go_ret2
    exact ⟨rfl, (by repeat' (first | with_reducible exact Below.refl _ _ | with_reducible assumption | with_reducible apply Below.drew | with_reducible apply below_drewN | with_reducible apply Below.alloc | with_reducible apply Below.setCell | (with_reducible refine Below.trans ?_ (Below.mono (by assumption) ?_)) | (simp; done) | (simp; omega) | omega | with_reducible apply le_size_alloc | with_reducible apply le_size_drewN | with_reducible apply le_size_drew | with_reducible apply le_size_setCell | refine Nat.le_trans ?_ (Below.size (by assumption))))⟩
  obtain rfl : z = 0 := by omega
  obtain ⟨g1, g2, g3, g4, g5, g6, g7, g8, g9, g10⟩ := zchd_ok hz
  clear hz
  rw [if_neg h0]
  clear h0
  rcases (by omega : hi ≤ free ∨ (free < hi ∧ lo ≤ free) ∨ (free < hi ∧ free < lo ∧ mn < free) ∨ (free < hi ∧ free < lo ∧ free ≤ mn)) with d1 | ⟨d1, d2⟩ | ⟨d1, d2, d3⟩ | ⟨d1, d2, d3⟩
  all_goals
    go_enter Try.func19, Try.ntmps19
    go_wp2_with fail
    refine (rasked_any _ _ _ _ _ _ _).mono ?_
    rw [HZ.out]
    rintro e w1 ⟨rfl, hb1⟩
    have hB0 : w1.cell? ⟨w.heap.size, 0, none⟩ = some (.int .i64 mn) := cell_keep hb1 (by simp) (by simp)
    have hB1 : w1.cell? ⟨w.heap.size, 1, none⟩ = some (.int .i64 lo) := cell_keep hb1 (by simp) (by simp)
    have hB2 : w1.cell? ⟨w.heap.size, 2, none⟩ = some (.int .i64 hi) := cell_keep hb1 (by simp) (by simp)
    go_wp2
    go_ret2
    refine ⟨congrArg Ending.returned ?_, (by repeat' (first | with_reducible exact Below.refl _ _ | with_reducible assumption | with_reducible apply Below.drew | with_reducible apply below_drewN | with_reducible apply Below.alloc | with_reducible apply Below.setCell | (with_reducible refine Below.trans ?_ (Below.mono (by assumption) ?_)) | (simp; done) | (simp; omega) | omega | with_reducible apply le_size_alloc | with_reducible apply le_size_drewN | with_reducible apply le_size_drew | with_reducible apply le_size_setCell | refine Nat.le_trans ?_ (Below.size (by assumption))))⟩
    congr 3

set_option maxHeartbeats 1000000 in
theorem rAwake_any (mn lo hi free : Int) (was : Bool) (w : World) :
    Calls Try.prog 21 #[.agg #[.int .i64 mn, .int .i64 lo, .int .i64 hi], .int .i64 free, .bool was] w fun e w' =>
      e = .returned (awakeR mn lo hi free was) ∧ Below w.heap.size w w' := by
  unfold awakeR
  generalize hz : zchd mn lo hi 1 free 0 = z
  have HZ := Lib.hid hz
  by_cases h0 : z ≠ 0
  · rw [if_pos h0]
    have hne : (z != 0) = true := by simpa using h0
    clear hz h0
    go_enter Try.func21, Try.ntmps21
    go_wp2_with (go_at_call 32; refine (rasked_any _ _ _ _ _ _ _).mono ?_; rw [HZ.out]; rintro e w1 ⟨rfl, hb1⟩)
    go_ret2
    exact ⟨rfl, (by repeat' (first | with_reducible exact Below.refl _ _ | with_reducible assumption | with_reducible apply Below.drew | with_reducible apply below_drewN | with_reducible apply Below.alloc | with_reducible apply Below.setCell | (with_reducible refine Below.trans ?_ (Below.mono (by assumption) ?_)) | (simp; done) | (simp; omega) | omega | with_reducible apply le_size_alloc | with_reducible apply le_size_drewN | with_reducible apply le_size_drew | with_reducible apply le_size_setCell | refine Nat.le_trans ?_ (Below.size (by assumption))))⟩
  obtain rfl : z = 0 := by omega
  obtain ⟨g1, g2, g3, g4, g5, g6, g7, g8, g9, g10⟩ := zchd_ok hz
  clear hz
  rw [if_neg h0]
  clear h0
  rcases (by omega : free < lo ∨ (lo ≤ free ∧ free < hi) ∨ (lo ≤ free ∧ hi ≤ free)) with d1 | ⟨d1, d2⟩ | ⟨d1, d2⟩
  all_goals
    go_enter Try.func21, Try.ntmps21
    go_wp2_with fail
    refine (rasked_any _ _ _ _ _ _ _).mono ?_
    rw [HZ.out]
    rintro e w1 ⟨rfl, hb1⟩
    have hB0 : w1.cell? ⟨w.heap.size, 0, none⟩ = some (.int .i64 mn) := cell_keep hb1 (by simp) (by simp)
    have hB1 : w1.cell? ⟨w.heap.size, 1, none⟩ = some (.int .i64 lo) := cell_keep hb1 (by simp) (by simp)
    have hB2 : w1.cell? ⟨w.heap.size, 2, none⟩ = some (.int .i64 hi) := cell_keep hb1 (by simp) (by simp)
    go_wp2
    go_ret2
    refine ⟨congrArg Ending.returned ?_, (by repeat' (first | with_reducible exact Below.refl _ _ | with_reducible assumption | with_reducible apply Below.drew | with_reducible apply below_drewN | with_reducible apply Below.alloc | with_reducible apply Below.setCell | (with_reducible refine Below.trans ?_ (Below.mono (by assumption) ?_)) | (simp; done) | (simp; omega) | omega | with_reducible apply le_size_alloc | with_reducible apply le_size_drewN | with_reducible apply le_size_drew | with_reducible apply le_size_setCell | refine Nat.le_trans ?_ (Below.size (by assumption))))⟩
    congr 3
    congr 1
    first
      | (rw [decide_eq_true d1]; done)
      | (rw [decide_eq_false (show ¬ free < lo by omega), decide_eq_true d2]; simp; done)
      | (rw [decide_eq_false (show ¬ free < lo by omega), decide_eq_false (show ¬ free < hi by omega)]; simp; done)
      | (simp [d1, d2]; done) | (simp [d1]; done)
end Go.Proofs.Ytdkangjjiikdiaa
