/- Contracts of the reference of layer 21: Events, Needs, Over, Shortest, Frames. Written by gen_rir4.py. -/
import Derived.Test.YtngenoblifhnpaaDoorRiR3
namespace Go.Proofs.YtngenoblifhnpaaDoor
open Go.RowKit Go.Maps

set_option maxRecDepth 100000 in
set_option maxHeartbeats 4000000 in
theorem REvents_any (s f g : Int) (w : World) :
    Calls Tryd.prog 30 #[.agg #[.int .i64 s, .int .i64 f, .int .i64 g]] w (LsPost (eveR (s, f, g)).1 (eveR (s, f, g)).2 w) := by
  obtain ⟨i0, hi0, hz0, hz1, hz2⟩ := info_parts intInfo
  obtain ⟨z, hz⟩ : ∃ z, chkR (s, f, g) = z := ⟨_, rfl⟩
  by_cases h0 : z = 0
  · subst h0
    have HE : Hid (eveR (s, f, g) = (evsR (s, f, g), 0)) := by show _ = _; unfold eveR; rw [if_pos hz]
    have HZ := Lib.hid hz
    clear hz
    go_enter Tryd.func30, Tryd.ntmps30
    go_wp2_with fail
    refine (rCheck_any s f g _ HZ.out).mono ?_
    rintro e w1 ⟨rfl, hb1⟩
    have kb : Blk w1 w.heap.size 23 #[.int .i64 s, .int .i64 f, .int .i64 g] := Blk.below_ (Blk.new_ rfl rfl) hb1 (by simp)
    have BW : Below w.heap.size w w1 := box_below hb1
    clear hb1
    go_wp2_with fail
    go_loopw [5, 6] (fun v i wr => ∃ k : Nat, k ≤ 6 ∧ i = .int .i64 ((k : Int) + 1) ∧ ∃ A c, v = .slice A (evTo (s, f, g) k).length c ∧ Own wr w1.heap.size 3 (.int .i64) (.slice A (evTo (s, f, g) k).length c) (evTo (s, f, g) k) ∧ Below w1.heap.size w1 wr) (fun _ i _ => 7 - (intOf i).toNat)
    case atStart => exact ⟨0, by omega, rfl, none, 0, rfl, World.ownsRow_nil _ _ _ _, Below.refl _ _⟩
    case round =>
      obtain ⟨k, hk, rfl, A2, c2, rfl, ho2, hb2⟩ := hrel
      have HO2 := Lib.hid ho2
      clear ho2
      by_cases hk' : k < 6
      · have i1 : (k : Int) + 1 ≤ 6 := by omega
        have i2 : (1 : Int) ≤ (k : Int) + 1 := by omega
        have kb2 := kb.below_ hb2 kb.lt
        have q0 := kb2.cell_ 0
        have q1 := kb2.cell_ 1
        have q2 := kb2.cell_ 2
        simp at q0 q1 q2
        have hel := evTo_len (s, f, g) k
        obtain ⟨xs, hxs⟩ : ∃ xs, evTo (s, f, g) k = xs := ⟨_, rfl⟩
        have HT : Hid (evTo (s, f, g) (k + 1) = xs ++ (if canR (s, f, g) ((k : Int) + 1) then [(k : Int) + 1] else [])) := by show _ = _; rw [evTo, hxs]
        rw [hxs] at HO2 hel ⊢
        clear hxs kb2
        cases hc : canR (s, f, g) ((k : Int) + 1) with
        | true =>
          have HT2 : Hid (evTo (s, f, g) (k + 1) = xs ++ [(k : Int) + 1]) := by show _ = _; rw [HT.out, hc]; rfl
          go_wp2_with (first | (go_at_call 43; with_reducible refine (allows_any s f g ((k : Int) + 1) _ HZ.out i2 i1).mono ?_; rw [hc]; rintro e w3 ⟨rfl, hb3⟩) | (at_builtin; refine wpList_appS' (mk := Value.int .i64) _ rfl (.tmp 19) (.tmp 21) _ rfl 3 i0 _ 8 Tryd.underlying32 hi0 hz0 hz1 hz2 rfl w1.heap.size A2 c2 xs rfl ?_ _ 1 [(k : Int) + 1] (by simp) rfl (Sl.of_lit (t := 3) (xs := [(k : Int) + 1]) ?_) (int_one _) (by simp; omega) (by simp; omega) ?_ ?_; (exact HO2.out.below (by repeat' (first | with_reducible exact Below.refl _ _ | with_reducible assumption | with_reducible apply Below.drew | with_reducible apply below_drewN | with_reducible apply Below.alloc | with_reducible apply Below.setCell | (with_reducible refine Below.trans ?_ (Below.mono (by assumption) ?_)) | (simp; done) | (simp; omega) | omega | with_reducible apply le_size_alloc | with_reducible apply le_size_drewN | with_reducible apply le_size_drew | with_reducible apply le_size_setCell | refine Nat.le_trans ?_ (Below.size (by assumption))))); (exact (by repeat' (first | with_reducible assumption | (with_reducible refine Blk.new_ ?_ ?_ <;> first | (simp; done) | rfl) | with_reducible apply Blk.drew_ | with_reducible apply Blk.drewN_ | with_reducible apply Blk.alloc_ | with_reducible refine Blk.far_ ?_ ?_ _ | (with_reducible refine Blk.below_ ?_ (by assumption) ?_) | (simp; done) | (simp; omega) | omega | with_reducible apply le_size_alloc | with_reducible apply lt_size_alloc | with_reducible apply le_size_drewN | with_reducible apply le_size_drew | with_reducible apply le_size_setCell | refine Nat.lt_of_lt_of_le ?_ (Below.size (by assumption)) | refine Nat.le_trans ?_ (Below.size (by assumption))))); (exact Nat.le_trans hb2.size (Nat.le_trans hb3.size (by simp))); intro A4 c4 w4 ho4 hb4))
          go_roundw
          case rel =>
            refine ⟨k + 1, by omega, by go_num, A4, c4, ?_, ?_, hb2.trans ((hb3.mono hb2.size).trans (show Below w1.heap.size w3 w4 from ((Below.refl _ _).alloc (Nat.le_trans hb2.size hb3.size) _).trans hb4))⟩
            · rw [HT2.out]; simp
            · rw [HT2.out]; exact ho4
          case measure => simp [intOf]; omega
        | false =>
          have HT2 : Hid (evTo (s, f, g) (k + 1) = xs) := by show _ = _; rw [HT.out, hc]; simp
          go_wp2_with (first | (go_at_call 43; with_reducible refine (allows_any s f g ((k : Int) + 1) _ HZ.out i2 i1).mono ?_; rw [hc]; rintro e w3 ⟨rfl, hb3⟩))
          go_roundw
          case rel =>
            refine ⟨k + 1, by omega, by go_num, A2, c2, ?_, ?_, hb2.trans (hb3.mono hb2.size)⟩
            · rw [HT2.out]
            · rw [HT2.out]; exact HO2.out.below hb3
          case measure => simp [intOf]; omega
      · obtain rfl : k = 6 := by omega
        rw [evTo_six] at HO2 ⊢
        go_wp2_with fail
        go_ret2
        unfold LsPost
        rw [HE.out]
        exact ⟨A2, c2, rfl, HO2.out.iw, BW.trans (hb2.mono BW.size)⟩
  · have HE : Hid (eveR (s, f, g) = ([], z)) := by show _ = _; unfold eveR; rw [if_neg (by rw [hz]; exact h0), hz]
    have nz : (z != 0) = true := by simpa using h0
    have HZ := Lib.hid hz
    clear hz h0
    go_enter Tryd.func30, Tryd.ntmps30
    go_wp2_with fail
    refine (rCheck_any s f g _ HZ.out).mono ?_
    rintro e w1 ⟨rfl, hb1⟩
    go_wp2_with fail
    go_ret2
    unfold LsPost
    rw [HE.out]
    exact ⟨none, 0, rfl, IW.nil, (by repeat' (first | with_reducible exact Below.refl _ _ | with_reducible assumption | with_reducible apply Below.drew | with_reducible apply below_drewN | with_reducible apply Below.alloc | with_reducible apply Below.setCell | (with_reducible refine Below.trans ?_ (Below.mono (by assumption) ?_)) | (simp; done) | (simp; omega) | omega | with_reducible apply le_size_alloc | with_reducible apply le_size_drewN | with_reducible apply le_size_drew | with_reducible apply le_size_setCell | refine Nat.le_trans ?_ (Below.size (by assumption))))⟩

set_option maxRecDepth 100000 in
set_option maxHeartbeats 4000000 in
theorem ROver_any (s f g : Int) (w : World) :
    Calls Tryd.prog 23 #[.agg #[.int .i64 s, .int .i64 f, .int .i64 g]] w fun e w' => e = .returned (.tuple #[.bool (oveR (s, f, g)).1, .int .i64 (oveR (s, f, g)).2]) ∧ Below w.heap.size w w' := by
  obtain ⟨z, hz⟩ : ∃ z, chkR (s, f, g) = z := ⟨_, rfl⟩
  by_cases h0 : z = 0
  · subst h0
    obtain ⟨l, hl⟩ : ∃ l, evsR (s, f, g) = l := ⟨_, rfl⟩
    have HV : Hid (eveR (s, f, g) = (l, 0)) := by show _ = _; unfold eveR; rw [if_pos hz, hl]
    have HE : Hid (oveR (s, f, g) = (decide (l = []), 0)) := by show _ = _; unfold oveR; rw [if_pos hz, hl]
    clear hz hl
    cases l with
    | nil =>
      go_enter Tryd.func23, Tryd.ntmps23
      go_wp2_with fail
      refine (REvents_any s f g _).mono ?_
      unfold LsPost
      rw [HV.out]
      rintro e w1 ⟨A, c, rfl, hi, hb1⟩
      clear hi
      go_wp2_with fail
      go_ret2
      rw [HE.out]
      exact ⟨rfl, (by repeat' (first | with_reducible exact Below.refl _ _ | with_reducible assumption | with_reducible apply Below.drew | with_reducible apply below_drewN | with_reducible apply Below.alloc | with_reducible apply Below.setCell | (with_reducible refine Below.trans ?_ (Below.mono (by assumption) ?_)) | (simp; done) | (simp; omega) | omega | with_reducible apply le_size_alloc | with_reducible apply le_size_drewN | with_reducible apply le_size_drew | with_reducible apply le_size_setCell | refine Nat.le_trans ?_ (Below.size (by assumption))))⟩
    | cons x t =>
      have e1 : ((t.length : Int) + 1 == 0) = false := by simp; omega
      go_enter Tryd.func23, Tryd.ntmps23
      go_wp2_with fail
      refine (REvents_any s f g _).mono ?_
      unfold LsPost
      rw [HV.out]
      rintro e w1 ⟨A, c, rfl, hi, hb1⟩
      clear hi
      go_wp2_with fail
      go_ret2
      rw [HE.out]
      exact ⟨rfl, (by repeat' (first | with_reducible exact Below.refl _ _ | with_reducible assumption | with_reducible apply Below.drew | with_reducible apply below_drewN | with_reducible apply Below.alloc | with_reducible apply Below.setCell | (with_reducible refine Below.trans ?_ (Below.mono (by assumption) ?_)) | (simp; done) | (simp; omega) | omega | with_reducible apply le_size_alloc | with_reducible apply le_size_drewN | with_reducible apply le_size_drew | with_reducible apply le_size_setCell | refine Nat.le_trans ?_ (Below.size (by assumption))))⟩
  · have HE : Hid (oveR (s, f, g) = (false, z)) := by show _ = _; unfold oveR; rw [if_neg (by rw [hz]; exact h0), hz]
    have HV : Hid (eveR (s, f, g) = ([], z)) := by show _ = _; unfold eveR; rw [if_neg (by rw [hz]; exact h0), hz]
    have nz : (z == 0) = false := by simpa using h0
    clear hz h0
    go_enter Tryd.func23, Tryd.ntmps23
    go_wp2_with fail
    refine (REvents_any s f g _).mono ?_
    unfold LsPost
    rw [HV.out]
    rintro e w1 ⟨A, c, rfl, hi, hb1⟩
    clear hi
    go_wp2_with fail
    go_ret2
    rw [HE.out]
    exact ⟨rfl, (by repeat' (first | with_reducible exact Below.refl _ _ | with_reducible assumption | with_reducible apply Below.drew | with_reducible apply below_drewN | with_reducible apply Below.alloc | with_reducible apply Below.setCell | (with_reducible refine Below.trans ?_ (Below.mono (by assumption) ?_)) | (simp; done) | (simp; omega) | omega | with_reducible apply le_size_alloc | with_reducible apply le_size_drewN | with_reducible apply le_size_drew | with_reducible apply le_size_setCell | refine Nat.le_trans ?_ (Below.size (by assumption))))⟩

set_option maxRecDepth 100000 in
set_option maxHeartbeats 4000000 in
theorem RNeeds_any (s f g : Int) (w : World) :
    Calls Tryd.prog 31 #[.agg #[.int .i64 s, .int .i64 f, .int .i64 g]] w fun e w' => e = .returned (.tuple #[.int .i64 (neeR (s, f, g)).1, .int .i64 (neeR (s, f, g)).2]) ∧ Below w.heap.size w w' := by
  obtain ⟨z, hz⟩ : ∃ z, chkR (s, f, g) = z := ⟨_, rfl⟩
  by_cases h0 : z = 0
  · subst h0
    have HE : Hid (neeR (s, f, g) = (ndsR (s, f, g), 0)) := by show _ = _; unfold neeR; rw [if_pos hz]
    obtain ⟨h1, h8⟩ := chk_state hz
    have HZ := Lib.hid hz
    clear hz
    by_cases hg : g = -1
    all_goals
      have HG := Lib.hid hg
      first | (have hgb : (g == -1) = true := by simpa using hg) | (have hgb : (g == -1) = false := by simpa using hg)
      clear hg
      rcases (by omega : s = 1 ∨ s = 2 ∨ s = 3 ∨ s = 4 ∨ s = 5 ∨ s = 6 ∨ s = 7 ∨ s = 8) with rfl | rfl | rfl | rfl | rfl | rfl | rfl | rfl
      all_goals
        go_enter Tryd.func31, Tryd.ntmps31
        go_wp2_with fail
        refine (rCheck_any _ f g _ HZ.out).mono ?_
        rintro e w1 ⟨rfl, hb1⟩
        have q0 := cell_keep (p := ⟨w.heap.size, 0, none⟩) hb1 (by simp; rfl) (by simp)
        have q2 : w1.cell? ⟨w.heap.size, 2, none⟩ = some (.int .i64 g) := cell_keep hb1 (by simp) (by simp)
        go_wp2_with fail
        go_ret2
        rw [HE.out]
        refine ⟨?_, (by repeat' (first | with_reducible exact Below.refl _ _ | with_reducible assumption | with_reducible apply Below.drew | with_reducible apply below_drewN | with_reducible apply Below.alloc | with_reducible apply Below.setCell | (with_reducible refine Below.trans ?_ (Below.mono (by assumption) ?_)) | (simp; done) | (simp; omega) | omega | with_reducible apply le_size_alloc | with_reducible apply le_size_drewN | with_reducible apply le_size_drew | with_reducible apply le_size_setCell | refine Nat.le_trans ?_ (Below.size (by assumption))))⟩
        simp [ndsR, HG.out]
  · have HE : Hid (neeR (s, f, g) = (0, z)) := by show _ = _; unfold neeR; rw [if_neg (by rw [hz]; exact h0), hz]
    have nz : (z != 0) = true := by simpa using h0
    have HZ := Lib.hid hz
    clear hz
    go_enter Tryd.func31, Tryd.ntmps31
    go_wp2_with fail
    refine (rCheck_any s f g _ HZ.out).mono ?_
    rintro e w1 ⟨rfl, hb1⟩
    go_wp2_with fail
    go_ret2
    rw [HE.out]
    exact ⟨rfl, (by repeat' (first | with_reducible exact Below.refl _ _ | with_reducible assumption | with_reducible apply Below.drew | with_reducible apply below_drewN | with_reducible apply Below.alloc | with_reducible apply Below.setCell | (with_reducible refine Below.trans ?_ (Below.mono (by assumption) ?_)) | (simp; done) | (simp; omega) | omega | with_reducible apply le_size_alloc | with_reducible apply le_size_drewN | with_reducible apply le_size_drew | with_reducible apply le_size_setCell | refine Nat.le_trans ?_ (Below.size (by assumption))))⟩
end Go.Proofs.YtngenoblifhnpaaDoor
