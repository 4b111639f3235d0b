/- Contracts of the reference of layer 21: some, Step, Events, Needs, Over, Shortest. Written by gen_rir2.py. -/
import Derived.Test.YtngenoblifhnpaaDoorRiR
namespace Go.Proofs.YtngenoblifhnpaaDoor
open Go.RowKit Go.Maps

set_option maxRecDepth 100000 in
set_option maxHeartbeats 4000000 in
theorem some_any (A : Option Addr) (c : Nat) (xs : List Int) (w : World) (ha : Sl w (.int .i64) A xs) (la : xs.length ≤ 10) :
    Calls Tryd.prog 44 #[.slice A xs.length c] w fun e w' =>
      ∃ A' c', e = .returned (.slice A' (thereF xs).length c') ∧ Own w' w.heap.size 3 (.int .i64) (.slice A' (thereF xs).length c') (thereF xs) ∧ Below w.heap.size w w' := by
  have HA := Lib.hid ha
  clear ha
  obtain ⟨i0, hi0, hz0, hz1, hz2⟩ := info_parts intInfo
  go_enter Tryd.func44, Tryd.ntmps44
  go_wp2_with fail
  go_loopw [3, 4] (fun v i wr => ∃ k : Nat, k ≤ xs.length ∧ i = .int .i64 k ∧ ∃ A c, v = .slice A (thereF (xs.take k)).length c ∧ Own wr w.heap.size 3 (.int .i64) (.slice A (thereF (xs.take k)).length c) (thereF (xs.take k)) ∧ Below w.heap.size w wr) (fun _ i _ => xs.length - (intOf i).toNat)
  case atStart => exact ⟨0, by omega, rfl, none, 0, rfl, World.ownsRow_nil _ _ _ _, Below.refl _ _⟩
  case round =>
    obtain ⟨k, hk, rfl, A2, c2, rfl, ho2, hb2⟩ := hrel
    have HO2 := Lib.hid ho2
    clear ho2
    by_cases hk' : k < xs.length
    · obtain ⟨b, off, x, rfl, hbl, hx, hc⟩ := (HA.out.ext hb2).at_ hk'
      have i1 : (k : Int) < xs.length := by omega
      have hel := Nat.le_trans (thereF_len (xs.take k)) (show (xs.take k).length ≤ 10 by simp; omega)
      obtain ⟨ys, hys⟩ : ∃ ys, thereF (xs.take k) = ys := ⟨_, rfl⟩
      have HT : Hid (thereF (xs.take (k + 1)) = ys ++ (if x = -1 then [] else [x])) := by
        show _ = _
        obtain ⟨hk2, rfl⟩ := List.getElem?_eq_some_iff.1 hx
        rw [List.take_succ_eq_append_getElem hk2, thereF_snoc, hys]
      have hel2 : ys.length ≤ 10 := by rw [← hys]; exact hel
      rw [hys] at HO2 ⊢
      clear hys hx hel
      by_cases hm : x = -1
      · have HT2 : Hid (thereF (xs.take (k + 1)) = ys) := by show _ = _; rw [HT.out, if_pos hm, List.append_nil]
        have hmb : (x != -1) = false := by simp [hm]
        clear hm
        go_wp2_with fail
        go_roundw
        case rel =>
          refine ⟨k + 1, by omega, by go_num, A2, c2, ?_, ?_, hb2⟩
          · rw [HT2.out]
          · rw [HT2.out]; exact HO2.out
        case measure => simp [intOf]; omega
      · have HT2 : Hid (thereF (xs.take (k + 1)) = ys ++ [x]) := by show _ = _; rw [HT.out, if_neg hm]
        have hmb : (x != -1) = true := by simpa using hm
        clear hm
        go_wp2_with (at_builtin; refine wpList_appS' (mk := Value.int .i64) _ rfl (.tmp 16) (.tmp 21) _ rfl 3 i0 _ 8 Tryd.underlying32 hi0 hz0 hz1 hz2 rfl w.heap.size A2 c2 ys rfl ?_ _ 1 [x] (by simp) rfl (Sl.of_lit (t := 3) (xs := [x]) ?_) (int_one _) (by simp; omega) (by simp; omega) ?_ ?_; (exact HO2.out.below (by repeat' (first | with_reducible exact Below.refl _ _ | with_reducible assumption | with_reducible apply Below.drew | with_reducible apply below_drewN | with_reducible apply Below.alloc | with_reducible apply Below.setCell | (with_reducible refine Below.trans ?_ (Below.mono (by assumption) ?_)) | (simp; done) | (simp; omega) | omega | with_reducible apply le_size_alloc | with_reducible apply le_size_drewN | with_reducible apply le_size_drew | with_reducible apply le_size_setCell | refine Nat.le_trans ?_ (Below.size (by assumption))))); (exact (by repeat' (first | with_reducible assumption | (with_reducible refine Blk.new_ ?_ ?_ <;> first | (simp; done) | rfl) | with_reducible apply Blk.drew_ | with_reducible apply Blk.drewN_ | with_reducible apply Blk.alloc_ | with_reducible refine Blk.far_ ?_ ?_ _ | (with_reducible refine Blk.below_ ?_ (by assumption) ?_) | (simp; done) | (simp; omega) | omega | with_reducible apply le_size_alloc | with_reducible apply lt_size_alloc | with_reducible apply le_size_drewN | with_reducible apply le_size_drew | with_reducible apply le_size_setCell | refine Nat.lt_of_lt_of_le ?_ (Below.size (by assumption)) | refine Nat.le_trans ?_ (Below.size (by assumption))))); (exact Nat.le_trans hb2.size (by simp)); intro A4 c4 w4 ho4 hb4)
        go_roundw
        case rel =>
          refine ⟨k + 1, by omega, by go_num, A4, c4, ?_, ?_, hb2.trans (show Below w.heap.size wr w4 from ((Below.refl _ _).alloc hb2.size _).trans hb4)⟩
          · rw [HT2.out]; simp
          · rw [HT2.out]; exact ho4
        case measure => simp [intOf]; omega
    · obtain rfl : k = xs.length := by omega
      rw [List.take_length] at HO2 ⊢
      go_wp2_with fail
      go_ret
      exact ⟨A2, c2, rfl, HO2.out, hb2⟩
set_option maxRecDepth 100000 in
set_option maxHeartbeats 4000000 in
theorem rStep_chk (s f g e n : Int) (w : World) (h0 : chkR (s, f, g) ≠ 0) :
    Calls Tryd.prog 28 #[.agg #[.int .i64 s, .int .i64 f, .int .i64 g], .int .i64 e, .int .i64 n] w (StpPost (stpR (s, f, g) e n) w) := by
  obtain ⟨z, hz⟩ : ∃ z, chkR (s, f, g) = z := ⟨_, rfl⟩
  have HE : Hid (stpR (s, f, g) e n = ((0, 0, 0), [], 0, z)) := by show _ = _; unfold stpR; rw [if_pos h0, hz]
  have nz : (z != 0) = true := by rw [hz] at h0; simpa using h0
  have HC := Lib.hid hz
  clear hz h0
  go_enter Tryd.func28, Tryd.ntmps28
  go_wp2_with fail
  refine (rCheck_any s f g _ HC.out).mono ?_
  rintro er w1 ⟨rfl, hb1⟩
  have q0 : w1.cell? ⟨w.heap.size, 0, none⟩ = some (.int .i64 s) := cell_keep hb1 (by simp) (by simp; try omega)
  have q1 : w1.cell? ⟨w.heap.size, 1, none⟩ = some (.int .i64 f) := cell_keep hb1 (by simp) (by simp; try omega)
  have q2 : w1.cell? ⟨w.heap.size, 2, none⟩ = some (.int .i64 g) := cell_keep hb1 (by simp) (by simp; try omega)
  have p0 : w1.cell? ⟨w.heap.size + 1, 0, none⟩ = some (.int .i64 0) := cell_keep hb1 (by simp) (by simp)
  have fz0 : w1.frozen? ⟨w.heap.size + 1, 0, none⟩ = false := frozen_keep hb1 (by simp) (by simp)
  have p1 : w1.cell? ⟨w.heap.size + 1, 1, none⟩ = some (.int .i64 0) := cell_keep hb1 (by simp) (by simp)
  have fz1 : w1.frozen? ⟨w.heap.size + 1, 1, none⟩ = false := frozen_keep hb1 (by simp) (by simp)
  have p2 : w1.cell? ⟨w.heap.size + 1, 2, none⟩ = some (.int .i64 0) := cell_keep hb1 (by simp) (by simp)
  have fz2 : w1.frozen? ⟨w.heap.size + 1, 2, none⟩ = false := frozen_keep hb1 (by simp) (by simp)
  have zl : w.heap.size + 1 < w1.heap.size := by have := hb1.size; simp at this; omega
  go_wp2_with fail
  refine bodyPost_ret (v := .tuple #[.agg #[.int .i64 0, .int .i64 0, .int .i64 0], .slice none 0 0, .int .i64 0, .int .i64 z]) (by simp [results, Tryd.results28, go_sem, p0, p1, p2]) rfl ?_
  unfold StpPost
  rw [HE.out]
  exact ⟨none, 0, rfl, IWn.nil, (by repeat' (first | with_reducible exact Below.refl _ _ | with_reducible assumption | with_reducible apply Below.drew | with_reducible apply below_drewN | with_reducible apply Below.alloc | with_reducible apply Below.setCell | (with_reducible refine Below.trans ?_ (Below.mono (by assumption) ?_)) | (simp; done) | (simp; omega) | omega | with_reducible apply le_size_alloc | with_reducible apply le_size_drewN | with_reducible apply le_size_drew | with_reducible apply le_size_setCell | refine Nat.le_trans ?_ (Below.size (by assumption))))⟩
set_option maxRecDepth 100000 in
set_option maxHeartbeats 4000000 in
theorem rStep_kinda (s f g e n : Int) (w : World) (h0 : chkR (s, f, g) = 0) (h1 : e < 1) :
    Calls Tryd.prog 28 #[.agg #[.int .i64 s, .int .i64 f, .int .i64 g], .int .i64 e, .int .i64 n] w (StpPost (stpR (s, f, g) e n) w) := by
  have HE : Hid (stpR (s, f, g) e n = ((0, 0, 0), [], 0, 16)) := by show _ = _; unfold stpR; rw [if_neg (by simp [h0]), if_pos (.inl h1)]
  have HC := Lib.hid h0
  clear h0
  go_enter Tryd.func28, Tryd.ntmps28
  go_wp2_with fail
  refine (rCheck_any s f g _ HC.out).mono ?_
  rintro er w1 ⟨rfl, hb1⟩
  have q0 : w1.cell? ⟨w.heap.size, 0, none⟩ = some (.int .i64 s) := cell_keep hb1 (by simp) (by simp; try omega)
  have q1 : w1.cell? ⟨w.heap.size, 1, none⟩ = some (.int .i64 f) := cell_keep hb1 (by simp) (by simp; try omega)
  have q2 : w1.cell? ⟨w.heap.size, 2, none⟩ = some (.int .i64 g) := cell_keep hb1 (by simp) (by simp; try omega)
  have p0 : w1.cell? ⟨w.heap.size + 1, 0, none⟩ = some (.int .i64 0) := cell_keep hb1 (by simp) (by simp)
  have fz0 : w1.frozen? ⟨w.heap.size + 1, 0, none⟩ = false := frozen_keep hb1 (by simp) (by simp)
  have p1 : w1.cell? ⟨w.heap.size + 1, 1, none⟩ = some (.int .i64 0) := cell_keep hb1 (by simp) (by simp)
  have fz1 : w1.frozen? ⟨w.heap.size + 1, 1, none⟩ = false := frozen_keep hb1 (by simp) (by simp)
  have p2 : w1.cell? ⟨w.heap.size + 1, 2, none⟩ = some (.int .i64 0) := cell_keep hb1 (by simp) (by simp)
  have fz2 : w1.frozen? ⟨w.heap.size + 1, 2, none⟩ = false := frozen_keep hb1 (by simp) (by simp)
  have zl : w.heap.size + 1 < w1.heap.size := by have := hb1.size; simp at this; omega
  go_wp2_with fail
  refine bodyPost_ret (v := .tuple #[.agg #[.int .i64 0, .int .i64 0, .int .i64 0], .slice none 0 0, .int .i64 0, .int .i64 16]) (by simp [results, Tryd.results28, go_sem, p0, p1, p2]) rfl ?_
  unfold StpPost
  rw [HE.out]
  exact ⟨none, 0, rfl, IWn.nil, (by repeat' (first | with_reducible exact Below.refl _ _ | with_reducible assumption | with_reducible apply Below.drew | with_reducible apply below_drewN | with_reducible apply Below.alloc | with_reducible apply Below.setCell | (with_reducible refine Below.trans ?_ (Below.mono (by assumption) ?_)) | (simp; done) | (simp; omega) | omega | with_reducible apply le_size_alloc | with_reducible apply le_size_drewN | with_reducible apply le_size_drew | with_reducible apply le_size_setCell | refine Nat.le_trans ?_ (Below.size (by assumption))))⟩
set_option maxRecDepth 100000 in
set_option maxHeartbeats 4000000 in
theorem rStep_kindb (s f g e n : Int) (w : World) (h0 : chkR (s, f, g) = 0) (h1 : 6 < e) :
    Calls Tryd.prog 28 #[.agg #[.int .i64 s, .int .i64 f, .int .i64 g], .int .i64 e, .int .i64 n] w (StpPost (stpR (s, f, g) e n) w) := by
  have HE : Hid (stpR (s, f, g) e n = ((0, 0, 0), [], 0, 16)) := by show _ = _; unfold stpR; rw [if_neg (by simp [h0]), if_pos (.inr h1)]
  have HC := Lib.hid h0
  clear h0
  have h2 : 1 ≤ e := by omega
  go_enter Tryd.func28, Tryd.ntmps28
  go_wp2_with fail
  refine (rCheck_any s f g _ HC.out).mono ?_
  rintro er w1 ⟨rfl, hb1⟩
  have q0 : w1.cell? ⟨w.heap.size, 0, none⟩ = some (.int .i64 s) := cell_keep hb1 (by simp) (by simp; try omega)
  have q1 : w1.cell? ⟨w.heap.size, 1, none⟩ = some (.int .i64 f) := cell_keep hb1 (by simp) (by simp; try omega)
  have q2 : w1.cell? ⟨w.heap.size, 2, none⟩ = some (.int .i64 g) := cell_keep hb1 (by simp) (by simp; try omega)
  have p0 : w1.cell? ⟨w.heap.size + 1, 0, none⟩ = some (.int .i64 0) := cell_keep hb1 (by simp) (by simp)
  have fz0 : w1.frozen? ⟨w.heap.size + 1, 0, none⟩ = false := frozen_keep hb1 (by simp) (by simp)
  have p1 : w1.cell? ⟨w.heap.size + 1, 1, none⟩ = some (.int .i64 0) := cell_keep hb1 (by simp) (by simp)
  have fz1 : w1.frozen? ⟨w.heap.size + 1, 1, none⟩ = false := frozen_keep hb1 (by simp) (by simp)
  have p2 : w1.cell? ⟨w.heap.size + 1, 2, none⟩ = some (.int .i64 0) := cell_keep hb1 (by simp) (by simp)
  have fz2 : w1.frozen? ⟨w.heap.size + 1, 2, none⟩ = false := frozen_keep hb1 (by simp) (by simp)
  have zl : w.heap.size + 1 < w1.heap.size := by have := hb1.size; simp at this; omega
  go_wp2_with fail
  refine bodyPost_ret (v := .tuple #[.agg #[.int .i64 0, .int .i64 0, .int .i64 0], .slice none 0 0, .int .i64 0, .int .i64 16]) (by simp [results, Tryd.results28, go_sem, p0, p1, p2]) rfl ?_
  unfold StpPost
  rw [HE.out]
  exact ⟨none, 0, rfl, IWn.nil, (by repeat' (first | with_reducible exact Below.refl _ _ | with_reducible assumption | with_reducible apply Below.drew | with_reducible apply below_drewN | with_reducible apply Below.alloc | with_reducible apply Below.setCell | (with_reducible refine Below.trans ?_ (Below.mono (by assumption) ?_)) | (simp; done) | (simp; omega) | omega | with_reducible apply le_size_alloc | with_reducible apply le_size_drewN | with_reducible apply le_size_drew | with_reducible apply le_size_setCell | refine Nat.le_trans ?_ (Below.size (by assumption))))⟩
set_option maxRecDepth 100000 in
set_option maxHeartbeats 4000000 in
theorem rStep_range1 (s f g e n : Int) (w : World) (h0 : chkR (s, f, g) = 0) (h1 : e = 1) (hd : decide (0 ≤ n ∧ n < 256) = false) :
    Calls Tryd.prog 28 #[.agg #[.int .i64 s, .int .i64 f, .int .i64 g], .int .i64 e, .int .i64 n] w (StpPost (stpR (s, f, g) e n) w) := by
  subst h1
  have HE : Hid (stpR (s, f, g) 1 n = ((0, 0, 0), [], 0, 2)) := by show _ = _; unfold stpR; rw [if_neg (by simp [h0]), if_neg (by omega), if_pos (.inl ⟨rfl, of_decide_eq_false hd⟩)]
  have HC := Lib.hid h0
  clear h0
  go_enter Tryd.func28, Tryd.ntmps28
  go_wp2_with fail
  refine (rCheck_any s f g _ HC.out).mono ?_
  rintro er w1 ⟨rfl, hb1⟩
  have q0 : w1.cell? ⟨w.heap.size, 0, none⟩ = some (.int .i64 s) := cell_keep hb1 (by simp) (by simp; try omega)
  have q1 : w1.cell? ⟨w.heap.size, 1, none⟩ = some (.int .i64 f) := cell_keep hb1 (by simp) (by simp; try omega)
  have q2 : w1.cell? ⟨w.heap.size, 2, none⟩ = some (.int .i64 g) := cell_keep hb1 (by simp) (by simp; try omega)
  have p0 : w1.cell? ⟨w.heap.size + 1, 0, none⟩ = some (.int .i64 0) := cell_keep hb1 (by simp) (by simp)
  have fz0 : w1.frozen? ⟨w.heap.size + 1, 0, none⟩ = false := frozen_keep hb1 (by simp) (by simp)
  have p1 : w1.cell? ⟨w.heap.size + 1, 1, none⟩ = some (.int .i64 0) := cell_keep hb1 (by simp) (by simp)
  have fz1 : w1.frozen? ⟨w.heap.size + 1, 1, none⟩ = false := frozen_keep hb1 (by simp) (by simp)
  have p2 : w1.cell? ⟨w.heap.size + 1, 2, none⟩ = some (.int .i64 0) := cell_keep hb1 (by simp) (by simp)
  have fz2 : w1.frozen? ⟨w.heap.size + 1, 2, none⟩ = false := frozen_keep hb1 (by simp) (by simp)
  have zl : w.heap.size + 1 < w1.heap.size := by have := hb1.size; simp at this; omega
  go_wp2_with (go_at_call 42; with_reducible refine (rframe_b n _ hd _).mono ?_; rintro er w' ⟨rfl, rfl⟩)
  refine bodyPost_ret (v := .tuple #[.agg #[.int .i64 0, .int .i64 0, .int .i64 0], .slice none 0 0, .int .i64 0, .int .i64 2]) (by simp [results, Tryd.results28, go_sem, p0, p1, p2]) rfl ?_
  unfold StpPost
  rw [HE.out]
  exact ⟨none, 0, rfl, IWn.nil, (by repeat' (first | with_reducible exact Below.refl _ _ | with_reducible assumption | with_reducible apply Below.drew | with_reducible apply below_drewN | with_reducible apply Below.alloc | with_reducible apply Below.setCell | (with_reducible refine Below.trans ?_ (Below.mono (by assumption) ?_)) | (simp; done) | (simp; omega) | omega | with_reducible apply le_size_alloc | with_reducible apply le_size_drewN | with_reducible apply le_size_drew | with_reducible apply le_size_setCell | refine Nat.le_trans ?_ (Below.size (by assumption))))⟩
set_option maxRecDepth 100000 in
set_option maxHeartbeats 4000000 in
theorem rStep_range2 (s f g e n : Int) (w : World) (h0 : chkR (s, f, g) = 0) (h1 : 2 ≤ e) (h6 : e ≤ 6) (hn : n ≠ -1) :
    Calls Tryd.prog 28 #[.agg #[.int .i64 s, .int .i64 f, .int .i64 g], .int .i64 e, .int .i64 n] w (StpPost (stpR (s, f, g) e n) w) := by
  have HE : Hid (stpR (s, f, g) e n = ((0, 0, 0), [], 0, 2)) := by show _ = _; unfold stpR; rw [if_neg (by simp [h0]), if_neg (by omega), if_pos (.inr ⟨by omega, hn⟩)]
  have HC := Lib.hid h0
  have e1 : (e == 1) = false := by simp; omega
  have e2 : (e != 1) = true := by simp; omega
  have nn : (n != -1) = true := by simpa using hn
  clear h0 hn
  go_enter Tryd.func28, Tryd.ntmps28
  go_wp2_with fail
  refine (rCheck_any s f g _ HC.out).mono ?_
  rintro er w1 ⟨rfl, hb1⟩
  have q0 : w1.cell? ⟨w.heap.size, 0, none⟩ = some (.int .i64 s) := cell_keep hb1 (by simp) (by simp; try omega)
  have q1 : w1.cell? ⟨w.heap.size, 1, none⟩ = some (.int .i64 f) := cell_keep hb1 (by simp) (by simp; try omega)
  have q2 : w1.cell? ⟨w.heap.size, 2, none⟩ = some (.int .i64 g) := cell_keep hb1 (by simp) (by simp; try omega)
  have p0 : w1.cell? ⟨w.heap.size + 1, 0, none⟩ = some (.int .i64 0) := cell_keep hb1 (by simp) (by simp)
  have fz0 : w1.frozen? ⟨w.heap.size + 1, 0, none⟩ = false := frozen_keep hb1 (by simp) (by simp)
  have p1 : w1.cell? ⟨w.heap.size + 1, 1, none⟩ = some (.int .i64 0) := cell_keep hb1 (by simp) (by simp)
  have fz1 : w1.frozen? ⟨w.heap.size + 1, 1, none⟩ = false := frozen_keep hb1 (by simp) (by simp)
  have p2 : w1.cell? ⟨w.heap.size + 1, 2, none⟩ = some (.int .i64 0) := cell_keep hb1 (by simp) (by simp)
  have fz2 : w1.frozen? ⟨w.heap.size + 1, 2, none⟩ = false := frozen_keep hb1 (by simp) (by simp)
  have zl : w.heap.size + 1 < w1.heap.size := by have := hb1.size; simp at this; omega
  go_wp2_with fail
  refine bodyPost_ret (v := .tuple #[.agg #[.int .i64 0, .int .i64 0, .int .i64 0], .slice none 0 0, .int .i64 0, .int .i64 2]) (by simp [results, Tryd.results28, go_sem, p0, p1, p2]) rfl ?_
  unfold StpPost
  rw [HE.out]
  exact ⟨none, 0, rfl, IWn.nil, (by repeat' (first | with_reducible exact Below.refl _ _ | with_reducible assumption | with_reducible apply Below.drew | with_reducible apply below_drewN | with_reducible apply Below.alloc | with_reducible apply Below.setCell | (with_reducible refine Below.trans ?_ (Below.mono (by assumption) ?_)) | (simp; done) | (simp; omega) | omega | with_reducible apply le_size_alloc | with_reducible apply le_size_drewN | with_reducible apply le_size_drew | with_reducible apply le_size_setCell | refine Nat.le_trans ?_ (Below.size (by assumption))))⟩
set_option maxRecDepth 100000 in
set_option maxHeartbeats 4000000 in
theorem rStep_f_no (s f g e n : Int) (w : World) (h0 : chkR (s, f, g) = 0) (he : e = 1) (hd : decide (0 ≤ n ∧ n < 256) = true) (hc : canR (s, f, g) e = false) :
    Calls Tryd.prog 28 #[.agg #[.int .i64 s, .int .i64 f, .int .i64 g], .int .i64 e, .int .i64 n] w (StpPost (stpR (s, f, g) e n) w) := by
  subst he
  have HE : Hid (stpR (s, f, g) 1 n = ((0, 0, 0), [], 0, 9)) := by show _ = _; unfold stpR; rw [if_neg (by simp [h0]), if_neg (by omega), if_neg (by have := of_decide_eq_true hd; omega), if_pos hc]
  have HC := Lib.hid h0; have HA := Lib.hid hc
  clear h0 hc
  go_enter Tryd.func28, Tryd.ntmps28
  go_wp2_with fail
  refine (rCheck_any s f g _ HC.out).mono ?_
  rintro er w1 ⟨rfl, hb1⟩
  have q0 : w1.cell? ⟨w.heap.size, 0, none⟩ = some (.int .i64 s) := cell_keep hb1 (by simp) (by simp; try omega)
  have q1 : w1.cell? ⟨w.heap.size, 1, none⟩ = some (.int .i64 f) := cell_keep hb1 (by simp) (by simp; try omega)
  have q2 : w1.cell? ⟨w.heap.size, 2, none⟩ = some (.int .i64 g) := cell_keep hb1 (by simp) (by simp; try omega)
  have p0 : w1.cell? ⟨w.heap.size + 1, 0, none⟩ = some (.int .i64 0) := cell_keep hb1 (by simp) (by simp)
  have fz0 : w1.frozen? ⟨w.heap.size + 1, 0, none⟩ = false := frozen_keep hb1 (by simp) (by simp)
  have p1 : w1.cell? ⟨w.heap.size + 1, 1, none⟩ = some (.int .i64 0) := cell_keep hb1 (by simp) (by simp)
  have fz1 : w1.frozen? ⟨w.heap.size + 1, 1, none⟩ = false := frozen_keep hb1 (by simp) (by simp)
  have p2 : w1.cell? ⟨w.heap.size + 1, 2, none⟩ = some (.int .i64 0) := cell_keep hb1 (by simp) (by simp)
  have fz2 : w1.frozen? ⟨w.heap.size + 1, 2, none⟩ = false := frozen_keep hb1 (by simp) (by simp)
  have zl : w.heap.size + 1 < w1.heap.size := by have := hb1.size; simp at this; omega
  go_wp2_with (go_at_call 42; with_reducible refine (rframe_b n _ hd _).mono ?_; rintro er w' ⟨rfl, rfl⟩)
  refine (allows_any s f g 1 _ HC.out (by omega) (by omega)).mono ?_
  rw [HA.out]
  rintro er w2 ⟨rfl, hb2⟩
  have hbw : Below (w.heap.size + 2) ((w.alloc (.cells #[.int .i64 s, .int .i64 f, .int .i64 g] 23)).alloc (.cells #[.int .i64 0, .int .i64 0, .int .i64 0] 23)) w2 := by
    refine (show Below _ _ w1 from by simpa using hb1).trans (hb2.mono ?_)
    have := hb1.size; simp at this; omega
  have HB2 : Hid (Below w.heap.size w w2) := ((((Below.refl _ _).alloc (Nat.le_refl _) _).alloc (by simp) _).trans (hbw.mono (by omega)))
  clear q0 q1 q2 p0 p1 p2 fz0 fz1 fz2 zl hb1 hb2
  have q0 : w2.cell? ⟨w.heap.size, 0, none⟩ = some (.int .i64 s) := cell_keep hbw (by simp) (by simp; try omega)
  have q1 : w2.cell? ⟨w.heap.size, 1, none⟩ = some (.int .i64 f) := cell_keep hbw (by simp) (by simp; try omega)
  have q2 : w2.cell? ⟨w.heap.size, 2, none⟩ = some (.int .i64 g) := cell_keep hbw (by simp) (by simp; try omega)
  have p0 : w2.cell? ⟨w.heap.size + 1, 0, none⟩ = some (.int .i64 0) := cell_keep hbw (by simp) (by simp)
  have fz0 : w2.frozen? ⟨w.heap.size + 1, 0, none⟩ = false := frozen_keep hbw (by simp) (by simp)
  have p1 : w2.cell? ⟨w.heap.size + 1, 1, none⟩ = some (.int .i64 0) := cell_keep hbw (by simp) (by simp)
  have fz1 : w2.frozen? ⟨w.heap.size + 1, 1, none⟩ = false := frozen_keep hbw (by simp) (by simp)
  have p2 : w2.cell? ⟨w.heap.size + 1, 2, none⟩ = some (.int .i64 0) := cell_keep hbw (by simp) (by simp)
  have fz2 : w2.frozen? ⟨w.heap.size + 1, 2, none⟩ = false := frozen_keep hbw (by simp) (by simp)
  have zl : w.heap.size + 1 < w2.heap.size := by have := hbw.size; simp at this; omega
  clear hbw
  go_wp2_with fail
  refine bodyPost_ret (v := .tuple #[.agg #[.int .i64 0, .int .i64 0, .int .i64 0], .slice none 0 0, .int .i64 0, .int .i64 9]) (by simp [results, Tryd.results28, go_sem, p0, p1, p2]) rfl ?_
  unfold StpPost
  rw [HE.out]
  have hb := HB2.out
  exact ⟨none, 0, rfl, IWn.nil, (by repeat' (first | with_reducible exact Below.refl _ _ | with_reducible assumption | with_reducible apply Below.drew | with_reducible apply below_drewN | with_reducible apply Below.alloc | with_reducible apply Below.setCell | (with_reducible refine Below.trans ?_ (Below.mono (by assumption) ?_)) | (simp; done) | (simp; omega) | omega | with_reducible apply le_size_alloc | with_reducible apply le_size_drewN | with_reducible apply le_size_drew | with_reducible apply le_size_setCell | refine Nat.le_trans ?_ (Below.size (by assumption))))⟩
set_option maxRecDepth 100000 in
set_option maxHeartbeats 4000000 in
theorem rStep_e_no (s f g e n : Int) (w : World) (h0 : chkR (s, f, g) = 0) (a2 : 2 ≤ e) (a6 : e ≤ 6) (hn : n = -1) (hc : canR (s, f, g) e = false) :
    Calls Tryd.prog 28 #[.agg #[.int .i64 s, .int .i64 f, .int .i64 g], .int .i64 e, .int .i64 n] w (StpPost (stpR (s, f, g) e n) w) := by
  subst hn
  have HE : Hid (stpR (s, f, g) e (-1) = ((0, 0, 0), [], 0, 9)) := by show _ = _; unfold stpR; rw [if_neg (by simp [h0]), if_neg (by omega), if_neg (by omega), if_pos hc]
  have HC := Lib.hid h0; have HA := Lib.hid hc
  have e1 : (e == 1) = false := by simp; omega
  have e2 : (e != 1) = true := by simp; omega
  clear h0 hc
  go_enter Tryd.func28, Tryd.ntmps28
  go_wp2_with fail
  refine (rCheck_any s f g _ HC.out).mono ?_
  rintro er w1 ⟨rfl, hb1⟩
  have q0 : w1.cell? ⟨w.heap.size, 0, none⟩ = some (.int .i64 s) := cell_keep hb1 (by simp) (by simp; try omega)
  have q1 : w1.cell? ⟨w.heap.size, 1, none⟩ = some (.int .i64 f) := cell_keep hb1 (by simp) (by simp; try omega)
  have q2 : w1.cell? ⟨w.heap.size, 2, none⟩ = some (.int .i64 g) := cell_keep hb1 (by simp) (by simp; try omega)
  have p0 : w1.cell? ⟨w.heap.size + 1, 0, none⟩ = some (.int .i64 0) := cell_keep hb1 (by simp) (by simp)
  have fz0 : w1.frozen? ⟨w.heap.size + 1, 0, none⟩ = false := frozen_keep hb1 (by simp) (by simp)
  have p1 : w1.cell? ⟨w.heap.size + 1, 1, none⟩ = some (.int .i64 0) := cell_keep hb1 (by simp) (by simp)
  have fz1 : w1.frozen? ⟨w.heap.size + 1, 1, none⟩ = false := frozen_keep hb1 (by simp) (by simp)
  have p2 : w1.cell? ⟨w.heap.size + 1, 2, none⟩ = some (.int .i64 0) := cell_keep hb1 (by simp) (by simp)
  have fz2 : w1.frozen? ⟨w.heap.size + 1, 2, none⟩ = false := frozen_keep hb1 (by simp) (by simp)
  have zl : w.heap.size + 1 < w1.heap.size := by have := hb1.size; simp at this; omega
  go_wp2_with fail
  refine (allows_any s f g e _ HC.out (by omega) (by omega)).mono ?_
  rw [HA.out]
  rintro er w2 ⟨rfl, hb2⟩
  have hbw : Below (w.heap.size + 2) ((w.alloc (.cells #[.int .i64 s, .int .i64 f, .int .i64 g] 23)).alloc (.cells #[.int .i64 0, .int .i64 0, .int .i64 0] 23)) w2 := by
    refine (show Below _ _ w1 from by simpa using hb1).trans (hb2.mono ?_)
    have := hb1.size; simp at this; omega
  have HB2 : Hid (Below w.heap.size w w2) := ((((Below.refl _ _).alloc (Nat.le_refl _) _).alloc (by simp) _).trans (hbw.mono (by omega)))
  clear q0 q1 q2 p0 p1 p2 fz0 fz1 fz2 zl hb1 hb2
  have q0 : w2.cell? ⟨w.heap.size, 0, none⟩ = some (.int .i64 s) := cell_keep hbw (by simp) (by simp; try omega)
  have q1 : w2.cell? ⟨w.heap.size, 1, none⟩ = some (.int .i64 f) := cell_keep hbw (by simp) (by simp; try omega)
  have q2 : w2.cell? ⟨w.heap.size, 2, none⟩ = some (.int .i64 g) := cell_keep hbw (by simp) (by simp; try omega)
  have p0 : w2.cell? ⟨w.heap.size + 1, 0, none⟩ = some (.int .i64 0) := cell_keep hbw (by simp) (by simp)
  have fz0 : w2.frozen? ⟨w.heap.size + 1, 0, none⟩ = false := frozen_keep hbw (by simp) (by simp)
  have p1 : w2.cell? ⟨w.heap.size + 1, 1, none⟩ = some (.int .i64 0) := cell_keep hbw (by simp) (by simp)
  have fz1 : w2.frozen? ⟨w.heap.size + 1, 1, none⟩ = false := frozen_keep hbw (by simp) (by simp)
  have p2 : w2.cell? ⟨w.heap.size + 1, 2, none⟩ = some (.int .i64 0) := cell_keep hbw (by simp) (by simp)
  have fz2 : w2.frozen? ⟨w.heap.size + 1, 2, none⟩ = false := frozen_keep hbw (by simp) (by simp)
  have zl : w.heap.size + 1 < w2.heap.size := by have := hbw.size; simp at this; omega
  clear hbw
  go_wp2_with fail
  refine bodyPost_ret (v := .tuple #[.agg #[.int .i64 0, .int .i64 0, .int .i64 0], .slice none 0 0, .int .i64 0, .int .i64 9]) (by simp [results, Tryd.results28, go_sem, p0, p1, p2]) rfl ?_
  unfold StpPost
  rw [HE.out]
  have hb := HB2.out
  exact ⟨none, 0, rfl, IWn.nil, (by repeat' (first | with_reducible exact Below.refl _ _ | with_reducible assumption | with_reducible apply Below.drew | with_reducible apply below_drewN | with_reducible apply Below.alloc | with_reducible apply Below.setCell | (with_reducible refine Below.trans ?_ (Below.mono (by assumption) ?_)) | (simp; done) | (simp; omega) | omega | with_reducible apply le_size_alloc | with_reducible apply le_size_drewN | with_reducible apply le_size_drew | with_reducible apply le_size_setCell | refine Nat.le_trans ?_ (Below.size (by assumption))))⟩
set_option maxRecDepth 100000 in
set_option maxHeartbeats 4000000 in
theorem rStep_f_has (s f g e n : Int) (w : World) (h0 : chkR (s, f, g) = 0) (he : e = 1) (hd : decide (0 ≤ n ∧ n < 256) = true) (hc : canR (s, f, g) e = true) (hg : n = g) :
    Calls Tryd.prog 28 #[.agg #[.int .i64 s, .int .i64 f, .int .i64 g], .int .i64 e, .int .i64 n] w (StpPost (stpR (s, f, g) e n) w) := by
  subst he hg
  have HE : Hid (stpR (s, f, n) 1 n = ((0, 0, 0), [], 0, 7)) := by show _ = _; unfold stpR; rw [if_neg (by simp [h0]), if_neg (by omega), if_neg (by have := of_decide_eq_true hd; omega), if_neg (by rw [hc]; simp), if_pos ⟨rfl, rfl⟩]
  have HC := Lib.hid h0; have HA := Lib.hid hc
  clear h0 hc
  go_enter Tryd.func28, Tryd.ntmps28
  go_wp2_with fail
  refine (rCheck_any s f n _ HC.out).mono ?_
  rintro er w1 ⟨rfl, hb1⟩
  have q0 : w1.cell? ⟨w.heap.size, 0, none⟩ = some (.int .i64 s) := cell_keep hb1 (by simp) (by simp; try omega)
  have q1 : w1.cell? ⟨w.heap.size, 1, none⟩ = some (.int .i64 f) := cell_keep hb1 (by simp) (by simp; try omega)
  have q2 : w1.cell? ⟨w.heap.size, 2, none⟩ = some (.int .i64 n) := cell_keep hb1 (by simp) (by simp; try omega)
  have p0 : w1.cell? ⟨w.heap.size + 1, 0, none⟩ = some (.int .i64 0) := cell_keep hb1 (by simp) (by simp)
  have fz0 : w1.frozen? ⟨w.heap.size + 1, 0, none⟩ = false := frozen_keep hb1 (by simp) (by simp)
  have p1 : w1.cell? ⟨w.heap.size + 1, 1, none⟩ = some (.int .i64 0) := cell_keep hb1 (by simp) (by simp)
  have fz1 : w1.frozen? ⟨w.heap.size + 1, 1, none⟩ = false := frozen_keep hb1 (by simp) (by simp)
  have p2 : w1.cell? ⟨w.heap.size + 1, 2, none⟩ = some (.int .i64 0) := cell_keep hb1 (by simp) (by simp)
  have fz2 : w1.frozen? ⟨w.heap.size + 1, 2, none⟩ = false := frozen_keep hb1 (by simp) (by simp)
  have zl : w.heap.size + 1 < w1.heap.size := by have := hb1.size; simp at this; omega
  go_wp2_with (go_at_call 42; with_reducible refine (rframe_b n _ hd _).mono ?_; rintro er w' ⟨rfl, rfl⟩)
  refine (allows_any s f n 1 _ HC.out (by omega) (by omega)).mono ?_
  rw [HA.out]
  rintro er w2 ⟨rfl, hb2⟩
  have hbw : Below (w.heap.size + 2) ((w.alloc (.cells #[.int .i64 s, .int .i64 f, .int .i64 n] 23)).alloc (.cells #[.int .i64 0, .int .i64 0, .int .i64 0] 23)) w2 := by
    refine (show Below _ _ w1 from by simpa using hb1).trans (hb2.mono ?_)
    have := hb1.size; simp at this; omega
  have HB2 : Hid (Below w.heap.size w w2) := ((((Below.refl _ _).alloc (Nat.le_refl _) _).alloc (by simp) _).trans (hbw.mono (by omega)))
  clear q0 q1 q2 p0 p1 p2 fz0 fz1 fz2 zl hb1 hb2
  have q0 : w2.cell? ⟨w.heap.size, 0, none⟩ = some (.int .i64 s) := cell_keep hbw (by simp) (by simp; try omega)
  have q1 : w2.cell? ⟨w.heap.size, 1, none⟩ = some (.int .i64 f) := cell_keep hbw (by simp) (by simp; try omega)
  have q2 : w2.cell? ⟨w.heap.size, 2, none⟩ = some (.int .i64 n) := cell_keep hbw (by simp) (by simp; try omega)
  have p0 : w2.cell? ⟨w.heap.size + 1, 0, none⟩ = some (.int .i64 0) := cell_keep hbw (by simp) (by simp)
  have fz0 : w2.frozen? ⟨w.heap.size + 1, 0, none⟩ = false := frozen_keep hbw (by simp) (by simp)
  have p1 : w2.cell? ⟨w.heap.size + 1, 1, none⟩ = some (.int .i64 0) := cell_keep hbw (by simp) (by simp)
  have fz1 : w2.frozen? ⟨w.heap.size + 1, 1, none⟩ = false := frozen_keep hbw (by simp) (by simp)
  have p2 : w2.cell? ⟨w.heap.size + 1, 2, none⟩ = some (.int .i64 0) := cell_keep hbw (by simp) (by simp)
  have fz2 : w2.frozen? ⟨w.heap.size + 1, 2, none⟩ = false := frozen_keep hbw (by simp) (by simp)
  have zl : w.heap.size + 1 < w2.heap.size := by have := hbw.size; simp at this; omega
  clear hbw
  go_wp2_with fail
  refine bodyPost_ret (v := .tuple #[.agg #[.int .i64 0, .int .i64 0, .int .i64 0], .slice none 0 0, .int .i64 0, .int .i64 7]) (by simp [results, Tryd.results28, go_sem, p0, p1, p2]) rfl ?_
  unfold StpPost
  rw [HE.out]
  have hb := HB2.out
  exact ⟨none, 0, rfl, IWn.nil, (by repeat' (first | with_reducible exact Below.refl _ _ | with_reducible assumption | with_reducible apply Below.drew | with_reducible apply below_drewN | with_reducible apply Below.alloc | with_reducible apply Below.setCell | (with_reducible refine Below.trans ?_ (Below.mono (by assumption) ?_)) | (simp; done) | (simp; omega) | omega | with_reducible apply le_size_alloc | with_reducible apply le_size_drewN | with_reducible apply le_size_drew | with_reducible apply le_size_setCell | refine Nat.le_trans ?_ (Below.size (by assumption))))⟩
end Go.Proofs.YtngenoblifhnpaaDoor
