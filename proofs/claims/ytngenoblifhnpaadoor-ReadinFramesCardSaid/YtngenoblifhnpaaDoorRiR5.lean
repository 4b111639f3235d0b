/- Contracts of layer 21: Shortest of the reference, both Frames. Written by gen_rir5.py. -/
import Derived.Test.YtngenoblifhnpaaDoorRiR4
import Derived.Test.YtngenoblifhnpaaDoorSortL
namespace Go.Proofs.YtngenoblifhnpaaDoor
open Go.RowKit Go.Maps

/-- Frames. -/
def framR (r : RI) : List Int × Int := if chkR r = 0 then (if r.2.1 > r.2.2 then thereF [r.2.2, r.2.1] else thereF [r.2.1, r.2.2], 0) else ([], chkR r)
theorem srt_of {l m : List Int} (hp : l.Perm m) (hs : m.Pairwise (· ≤ ·)) : srt l = m := by
  have h1 : (srt l).Perm m := (List.mergeSort_perm _ _).trans hp
  have h2 : (srt l).Pairwise (· ≤ ·) := by
    have := List.pairwise_mergeSort (le := fun x y : Int => decide (x ≤ y)) (fun a b c h1 h2 => by simp at *; omega) (fun a b => by simp; omega) l
    refine List.Pairwise.imp ?_ this
    intro a b h
    simpa using h
  exact List.Perm.eq_of_pairwise (fun a b _ _ h1 h2 => by omega) h2 hs h1
theorem srt_two (f g : Int) : srt (thereF [f, g]) = if f > g then thereF [g, f] else thereF [f, g] := by
  by_cases hf : f = -1 <;> by_cases hg : g = -1
  · subst hf hg
    rw [show thereF [-1, -1] = [] from by decide]
    rw [srt_of (List.Perm.refl _) (by simp)]
    split <;> rfl
  · subst hf
    rw [show thereF [-1, g] = [g] from by simp [thereF, hg], show thereF [g, -1] = [g] from by simp [thereF, hg]]
    rw [srt_of (List.Perm.refl _) (by simp)]
    split <;> rfl
  · subst hg
    rw [show thereF [f, -1] = [f] from by simp [thereF, hf], show thereF [-1, f] = [f] from by simp [thereF, hf]]
    rw [srt_of (List.Perm.refl _) (by simp)]
    split <;> rfl
  · rw [show thereF [f, g] = [f, g] from by simp [thereF, hf, hg], show thereF [g, f] = [g, f] from by simp [thereF, hf, hg]]
    split
    · exact srt_of (List.Perm.swap _ _ _) (by simp; omega)
    · exact srt_of (List.Perm.refl _) (by simp; omega)
theorem sl_both {w : World} {b : Nat} {t : TypeId} (h : Blk w b t #[.func (.func 46) #[] #[], .func (.func 47) #[] #[]]) : Sl w whV (some ⟨b, 0, none⟩) [false, true] := Sl.of_lit (xs := [false, true]) h
theorem map_both (f g : Int) : ([false, true].map (whI f g)) = [f, g] := rfl

set_option maxRecDepth 100000 in
set_option maxHeartbeats 4000000 in
theorem Frames_any (s f g : Int) (w : World) :
    Calls Tryd.prog 32 #[.agg #[.int .i64 s, .int .i64 f, .int .i64 g]] w (LsPost (framR (s, f, g)).1 (framR (s, f, g)).2 w) := by
  obtain ⟨z, hz⟩ : ∃ z, chkR (s, f, g) = z := ⟨_, rfl⟩
  by_cases h0 : z = 0
  · subst h0
    have HE : Hid (framR (s, f, g) = (srt (thereF [f, g]), 0)) := by show _ = _; unfold framR; rw [if_pos hz, srt_two]
    have HZ := Lib.hid hz
    clear hz
    obtain ⟨l, hl⟩ : ∃ l, thereF [f, g] = l := ⟨_, rfl⟩
    have hll : l.length ≤ 2 := by rw [← hl]; exact thereF_len _
    have HL := Lib.hid hl
    rw [hl] at HE
    clear hl
    go_enter Tryd.func32, Tryd.ntmps32
    go_wp2_with fail
    refine (Check_any s f g _ HZ.out).mono ?_
    rintro e w1 ⟨rfl, hb1⟩
    have q0 : w1.cell? ⟨w.heap.size, 0, none⟩ = some (.int .i64 s) := cell_keep hb1 (by simp) (by simp)
    have q1 : w1.cell? ⟨w.heap.size, 1, none⟩ = some (.int .i64 f) := cell_keep hb1 (by simp) (by simp)
    have q2 : w1.cell? ⟨w.heap.size, 2, none⟩ = some (.int .i64 g) := cell_keep hb1 (by simp) (by simp)
    have BW : Hid (Below w.heap.size w w1) := box_below hb1
    clear hb1
    go_wp2_with fail
    refine (freed_any s f g _ 2 [false, true] _ (sl_both (Blk.new_ rfl rfl)) (by simp)).mono ?_
    rw [map_both, HL.out]
    rintro e w2 ⟨A2, c2, rfl, ho2, hb2⟩
    have HO2 := Lib.hid ho2
    have BX : Hid (Below w1.heap.size w1 w2) := box_below hb2
    clear ho2 hb2 q0 q1 q2
    go_wp2_with fail
    refine (sort_own _ A2 c2 l _ HO2.out (by omega)).mono ?_
    rintro e w3 ⟨rfl, ho3, hb3⟩
    have HO3 := Lib.hid ho3
    have BY : Hid (Below w.heap.size w w3) := (BW.out.trans (BX.out.mono BW.out.size)).trans (hb3.mono (by have := BW.out.size; simp; omega))
    clear ho3 hb3
    go_wp2_with fail
    go_ret2
    unfold LsPost
    rw [HE.out]
    refine ⟨A2, c2, ?_, HO3.out.iw, BY.out⟩
    show _ = Ending.returned (.tuple #[.slice A2 (srt l).length c2, .int .i64 0])
    rw [srt_len]
    rfl
  · have HE : Hid (framR (s, f, g) = ([], z)) := by show _ = _; unfold framR; rw [if_neg (by rw [hz]; exact h0), hz]
    have nz : (z != 0) = true := by simpa using h0
    have HZ := Lib.hid hz
    clear hz h0
    go_enter Tryd.func32, Tryd.ntmps32
    go_wp2_with fail
    refine (Check_any s f g _ HZ.out).mono ?_
    rintro e w1 ⟨rfl, hb1⟩
    go_wp2_with fail
    go_ret2
    unfold LsPost
    rw [HE.out]
    exact ⟨none, 0, rfl, IW.nil, (by repeat' (first | with_reducible exact Below.refl _ _ | with_reducible assumption | with_reducible apply Below.drew | with_reducible apply below_drewN | with_reducible apply Below.alloc | with_reducible apply Below.setCell | (with_reducible refine Below.trans ?_ (Below.mono (by assumption) ?_)) | (simp; done) | (simp; omega) | omega | with_reducible apply le_size_alloc | with_reducible apply le_size_drewN | with_reducible apply le_size_drew | with_reducible apply le_size_setCell | refine Nat.le_trans ?_ (Below.size (by assumption))))⟩

set_option maxRecDepth 100000 in
set_option maxHeartbeats 4000000 in
theorem RFrames_any (s f g : Int) (w : World) :
    Calls Tryd.prog 33 #[.agg #[.int .i64 s, .int .i64 f, .int .i64 g]] w (LsPost (framR (s, f, g)).1 (framR (s, f, g)).2 w) := by
  obtain ⟨z, hz⟩ : ∃ z, chkR (s, f, g) = z := ⟨_, rfl⟩
  by_cases h0 : z = 0
  · subst h0
    have HZ := Lib.hid hz
    have HE0 : Hid (framR (s, f, g) = (if f > g then thereF [g, f] else thereF [f, g], 0)) := by show _ = _; unfold framR; rw [if_pos hz]
    clear hz
    by_cases hfg : g < f
    · have HE : Hid (framR (s, f, g) = (thereF [g, f], 0)) := by show _ = _; rw [HE0.out, if_pos hfg]
      clear HE0
      go_enter Tryd.func33, Tryd.ntmps33
      go_wp2_with fail
      refine (rCheck_any s f g _ HZ.out).mono ?_
      rintro e w1 ⟨rfl, hb1⟩
      have q1 : w1.cell? ⟨w.heap.size, 1, none⟩ = some (.int .i64 f) := cell_keep hb1 (by simp) (by simp)
      have q2 : w1.cell? ⟨w.heap.size, 2, none⟩ = some (.int .i64 g) := cell_keep hb1 (by simp) (by simp)
      have BW : Hid (Below w.heap.size w w1) := box_below hb1
      clear hb1
      go_wp2_with fail
      refine (some_any _ 2 [g, f] _ ?hs (by simp)).mono ?_
      case hs => exact Sl.of_lit (t := 3) (xs := [g, f]) (Blk.new_ rfl rfl)
      rintro e w2 ⟨A2, c2, rfl, ho2, hb2⟩
      have HO2 := Lib.hid ho2.iw
      have BY : Hid (Below w.heap.size w w2) := BW.out.trans ((box_below hb2).mono BW.out.size)
      clear ho2 hb2 q1 q2
      go_wp2_with fail
      go_ret2
      unfold LsPost
      rw [HE.out]
      exact ⟨A2, c2, rfl, HO2.out, BY.out⟩
    · have HE : Hid (framR (s, f, g) = (thereF [f, g], 0)) := by show _ = _; rw [HE0.out, if_neg hfg]
      clear HE0
      go_enter Tryd.func33, Tryd.ntmps33
      go_wp2_with fail
      refine (rCheck_any s f g _ HZ.out).mono ?_
      rintro e w1 ⟨rfl, hb1⟩
      have q1 : w1.cell? ⟨w.heap.size, 1, none⟩ = some (.int .i64 f) := cell_keep hb1 (by simp) (by simp)
      have q2 : w1.cell? ⟨w.heap.size, 2, none⟩ = some (.int .i64 g) := cell_keep hb1 (by simp) (by simp)
      have BW : Hid (Below w.heap.size w w1) := box_below hb1
      clear hb1
      go_wp2_with fail
      refine (some_any _ 2 [f, g] _ ?hs (by simp)).mono ?_
      case hs => exact Sl.of_lit (t := 3) (xs := [f, g]) (Blk.new_ rfl rfl)
      rintro e w2 ⟨A2, c2, rfl, ho2, hb2⟩
      have HO2 := Lib.hid ho2.iw
      have BY : Hid (Below w.heap.size w w2) := BW.out.trans ((box_below hb2).mono BW.out.size)
      clear ho2 hb2 q1 q2
      go_wp2_with fail
      go_ret2
      unfold LsPost
      rw [HE.out]
      exact ⟨A2, c2, rfl, HO2.out, BY.out⟩
  · have HE : Hid (framR (s, f, g) = ([], z)) := by show _ = _; unfold framR; rw [if_neg (by rw [hz]; exact h0), hz]
    have nz : (z != 0) = true := by simpa using h0
    have HZ := Lib.hid hz
    clear hz h0
    go_enter Tryd.func33, Tryd.ntmps33
    go_wp2_with fail
    refine (rCheck_any s f g _ HZ.out).mono ?_
    rintro e w1 ⟨rfl, hb1⟩
    go_wp2_with fail
    go_ret2
    unfold LsPost
    rw [HE.out]
    exact ⟨none, 0, rfl, IW.nil, (by repeat' (first | with_reducible exact Below.refl _ _ | with_reducible assumption | with_reducible apply Below.drew | with_reducible apply below_drewN | with_reducible apply Below.alloc | with_reducible apply Below.setCell | (with_reducible refine Below.trans ?_ (Below.mono (by assumption) ?_)) | (simp; done) | (simp; omega) | omega | with_reducible apply le_size_alloc | with_reducible apply le_size_drewN | with_reducible apply le_size_drew | with_reducible apply le_size_setCell | refine Nat.le_trans ?_ (Below.size (by assumption))))⟩
set_option maxRecDepth 100000 in
set_option maxHeartbeats 4000000 in
theorem RShortest_any (s f g : Int) (w : World) :
    Calls Tryd.prog 24 #[.agg #[.int .i64 s, .int .i64 f, .int .i64 g]] w (LsPost (shtR (s, f, g)).1 (shtR (s, f, g)).2 w) := by
  obtain ⟨z, hz⟩ : ∃ z, chkR (s, f, g) = z := ⟨_, rfl⟩
  by_cases h0 : z = 0
  · subst h0
    obtain ⟨h1, h8⟩ := chk_state hz
    have HE0 : Hid (shtR (s, f, g) = shoR (s, f, g)) := by show _ = _; unfold shtR; rw [if_pos hz]
    have HZ := Lib.hid hz
    clear hz
    by_cases hg : g = -1
    · rcases (by omega : s = 1 ∨ s = 2 ∨ s = 3 ∨ s = 4 ∨ s = 5 ∨ s = 6 ∨ s = 7 ∨ s = 8) with rfl | rfl | rfl | rfl | rfl | rfl | rfl | rfl
      · have HE : Hid (shtR (1, f, g) = ([1, 3, 5], 0)) := by show _ = _; rw [HE0.out]; simp [shoR, hg]
        clear HE0
        first | (have hgb : (g != -1) = false := by simpa using hg) | (have hgb : (g != -1) = true := by simpa using hg)
        clear hg
        go_enter Tryd.func24, Tryd.ntmps24
        go_wp2_with fail
        refine (rCheck_any 1 f g _ HZ.out).mono ?_
        rintro e w1 ⟨rfl, hb1⟩
        have q0 : w1.cell? ⟨w.heap.size, 0, none⟩ = some (.int .i64 1) := cell_keep hb1 (by simp) (by simp)
        have q2 : w1.cell? ⟨w.heap.size, 2, none⟩ = some (.int .i64 g) := cell_keep hb1 (by simp) (by simp)
        have BW : Hid (Below w.heap.size w w1) := box_below hb1
        clear hb1
        go_wp2_with fail
        go_ret2
        unfold LsPost
        rw [HE.out]
        exact ⟨_, 3, rfl, ⟨Sl.of_lit (t := 3) (xs := [1, 3, 5]) (Blk.new_ rfl rfl), by simp⟩, BW.out.alloc BW.out.size _⟩
      · have HE : Hid (shtR (2, f, g) = ([3, 5], 0)) := by show _ = _; rw [HE0.out]; simp [shoR, hg]
        clear HE0
        first | (have hgb : (g != -1) = false := by simpa using hg) | (have hgb : (g != -1) = true := by simpa using hg)
        clear hg
        go_enter Tryd.func24, Tryd.ntmps24
        go_wp2_with fail
        refine (rCheck_any 2 f g _ HZ.out).mono ?_
        rintro e w1 ⟨rfl, hb1⟩
        have q0 : w1.cell? ⟨w.heap.size, 0, none⟩ = some (.int .i64 2) := cell_keep hb1 (by simp) (by simp)
        have q2 : w1.cell? ⟨w.heap.size, 2, none⟩ = some (.int .i64 g) := cell_keep hb1 (by simp) (by simp)
        have BW : Hid (Below w.heap.size w w1) := box_below hb1
        clear hb1
        go_wp2_with fail
        go_ret2
        unfold LsPost
        rw [HE.out]
        exact ⟨_, 2, rfl, ⟨Sl.of_lit (t := 3) (xs := [3, 5]) (Blk.new_ rfl rfl), by simp⟩, BW.out.alloc BW.out.size _⟩
      · have HE : Hid (shtR (3, f, g) = ([5], 0)) := by show _ = _; rw [HE0.out]; simp [shoR, hg]
        clear HE0
        first | (have hgb : (g != -1) = false := by simpa using hg) | (have hgb : (g != -1) = true := by simpa using hg)
        clear hg
        go_enter Tryd.func24, Tryd.ntmps24
        go_wp2_with fail
        refine (rCheck_any 3 f g _ HZ.out).mono ?_
        rintro e w1 ⟨rfl, hb1⟩
        have q0 : w1.cell? ⟨w.heap.size, 0, none⟩ = some (.int .i64 3) := cell_keep hb1 (by simp) (by simp)
        have q2 : w1.cell? ⟨w.heap.size, 2, none⟩ = some (.int .i64 g) := cell_keep hb1 (by simp) (by simp)
        have BW : Hid (Below w.heap.size w w1) := box_below hb1
        clear hb1
        go_wp2_with fail
        go_ret2
        unfold LsPost
        rw [HE.out]
        exact ⟨_, 1, rfl, ⟨Sl.of_lit (t := 3) (xs := [5]) (Blk.new_ rfl rfl), by simp⟩, BW.out.alloc BW.out.size _⟩
      · have HE : Hid (shtR (4, f, g) = ([4], 0)) := by show _ = _; rw [HE0.out]; simp [shoR, hg]
        clear HE0
        first | (have hgb : (g != -1) = false := by simpa using hg) | (have hgb : (g != -1) = true := by simpa using hg)
        clear hg
        go_enter Tryd.func24, Tryd.ntmps24
        go_wp2_with fail
        refine (rCheck_any 4 f g _ HZ.out).mono ?_
        rintro e w1 ⟨rfl, hb1⟩
        have q0 : w1.cell? ⟨w.heap.size, 0, none⟩ = some (.int .i64 4) := cell_keep hb1 (by simp) (by simp)
        have q2 : w1.cell? ⟨w.heap.size, 2, none⟩ = some (.int .i64 g) := cell_keep hb1 (by simp) (by simp)
        have BW : Hid (Below w.heap.size w w1) := box_below hb1
        clear hb1
        go_wp2_with fail
        go_ret2
        unfold LsPost
        rw [HE.out]
        exact ⟨_, 1, rfl, ⟨Sl.of_lit (t := 3) (xs := [4]) (Blk.new_ rfl rfl), by simp⟩, BW.out.alloc BW.out.size _⟩
      · have HE : Hid (shtR (5, f, g) = ([], 0)) := by show _ = _; rw [HE0.out]; simp [shoR, hg]
        clear HE0
        first | (have hgb : (g != -1) = false := by simpa using hg) | (have hgb : (g != -1) = true := by simpa using hg)
        clear hg
        go_enter Tryd.func24, Tryd.ntmps24
        go_wp2_with fail
        refine (rCheck_any 5 f g _ HZ.out).mono ?_
        rintro e w1 ⟨rfl, hb1⟩
        have q0 : w1.cell? ⟨w.heap.size, 0, none⟩ = some (.int .i64 5) := cell_keep hb1 (by simp) (by simp)
        have q2 : w1.cell? ⟨w.heap.size, 2, none⟩ = some (.int .i64 g) := cell_keep hb1 (by simp) (by simp)
        have BW : Hid (Below w.heap.size w w1) := box_below hb1
        clear hb1
        go_wp2_with fail
        go_ret2
        unfold LsPost
        rw [HE.out]
        exact ⟨none, 0, rfl, IW.nil, BW.out⟩
      · have HE : Hid (shtR (6, f, g) = ([], 9)) := by show _ = _; rw [HE0.out]; simp [shoR, hg]
        clear HE0
        first | (have hgb : (g != -1) = false := by simpa using hg) | (have hgb : (g != -1) = true := by simpa using hg)
        clear hg
        go_enter Tryd.func24, Tryd.ntmps24
        go_wp2_with fail
        refine (rCheck_any 6 f g _ HZ.out).mono ?_
        rintro e w1 ⟨rfl, hb1⟩
        have q0 : w1.cell? ⟨w.heap.size, 0, none⟩ = some (.int .i64 6) := cell_keep hb1 (by simp) (by simp)
        have q2 : w1.cell? ⟨w.heap.size, 2, none⟩ = some (.int .i64 g) := cell_keep hb1 (by simp) (by simp)
        have BW : Hid (Below w.heap.size w w1) := box_below hb1
        clear hb1
        go_wp2_with fail
        go_ret2
        unfold LsPost
        rw [HE.out]
        exact ⟨none, 0, rfl, IW.nil, BW.out⟩
      · have HE : Hid (shtR (7, f, g) = ([], 9)) := by show _ = _; rw [HE0.out]; simp [shoR, hg]
        clear HE0
        first | (have hgb : (g != -1) = false := by simpa using hg) | (have hgb : (g != -1) = true := by simpa using hg)
        clear hg
        go_enter Tryd.func24, Tryd.ntmps24
        go_wp2_with fail
        refine (rCheck_any 7 f g _ HZ.out).mono ?_
        rintro e w1 ⟨rfl, hb1⟩
        have q0 : w1.cell? ⟨w.heap.size, 0, none⟩ = some (.int .i64 7) := cell_keep hb1 (by simp) (by simp)
        have q2 : w1.cell? ⟨w.heap.size, 2, none⟩ = some (.int .i64 g) := cell_keep hb1 (by simp) (by simp)
        have BW : Hid (Below w.heap.size w w1) := box_below hb1
        clear hb1
        go_wp2_with fail
        go_ret2
        unfold LsPost
        rw [HE.out]
        exact ⟨none, 0, rfl, IW.nil, BW.out⟩
      · have HE : Hid (shtR (8, f, g) = ([], 9)) := by show _ = _; rw [HE0.out]; simp [shoR, hg]
        clear HE0
        first | (have hgb : (g != -1) = false := by simpa using hg) | (have hgb : (g != -1) = true := by simpa using hg)
        clear hg
        go_enter Tryd.func24, Tryd.ntmps24
        go_wp2_with fail
        refine (rCheck_any 8 f g _ HZ.out).mono ?_
        rintro e w1 ⟨rfl, hb1⟩
        have q0 : w1.cell? ⟨w.heap.size, 0, none⟩ = some (.int .i64 8) := cell_keep hb1 (by simp) (by simp)
        have q2 : w1.cell? ⟨w.heap.size, 2, none⟩ = some (.int .i64 g) := cell_keep hb1 (by simp) (by simp)
        have BW : Hid (Below w.heap.size w w1) := box_below hb1
        clear hb1
        go_wp2_with fail
        go_ret2
        unfold LsPost
        rw [HE.out]
        exact ⟨none, 0, rfl, IW.nil, BW.out⟩
    · rcases (by omega : s = 1 ∨ s = 2 ∨ s = 3 ∨ s = 4 ∨ s = 5 ∨ s = 6 ∨ s = 7 ∨ s = 8) with rfl | rfl | rfl | rfl | rfl | rfl | rfl | rfl
      · have HE : Hid (shtR (1, f, g) = ([2, 4], 0)) := by show _ = _; rw [HE0.out]; simp [shoR, hg]
        clear HE0
        first | (have hgb : (g != -1) = false := by simpa using hg) | (have hgb : (g != -1) = true := by simpa using hg)
        clear hg
        go_enter Tryd.func24, Tryd.ntmps24
        go_wp2_with fail
        refine (rCheck_any 1 f g _ HZ.out).mono ?_
        rintro e w1 ⟨rfl, hb1⟩
        have q0 : w1.cell? ⟨w.heap.size, 0, none⟩ = some (.int .i64 1) := cell_keep hb1 (by simp) (by simp)
        have q2 : w1.cell? ⟨w.heap.size, 2, none⟩ = some (.int .i64 g) := cell_keep hb1 (by simp) (by simp)
        have BW : Hid (Below w.heap.size w w1) := box_below hb1
        clear hb1
        go_wp2_with fail
        go_ret2
        unfold LsPost
        rw [HE.out]
        exact ⟨_, 2, rfl, ⟨Sl.of_lit (t := 3) (xs := [2, 4]) (Blk.new_ rfl rfl), by simp⟩, BW.out.alloc BW.out.size _⟩
      · have HE : Hid (shtR (2, f, g) = ([2, 4], 0)) := by show _ = _; rw [HE0.out]; simp [shoR, hg]
        clear HE0
        first | (have hgb : (g != -1) = false := by simpa using hg) | (have hgb : (g != -1) = true := by simpa using hg)
        clear hg
        go_enter Tryd.func24, Tryd.ntmps24
        go_wp2_with fail
        refine (rCheck_any 2 f g _ HZ.out).mono ?_
        rintro e w1 ⟨rfl, hb1⟩
        have q0 : w1.cell? ⟨w.heap.size, 0, none⟩ = some (.int .i64 2) := cell_keep hb1 (by simp) (by simp)
        have q2 : w1.cell? ⟨w.heap.size, 2, none⟩ = some (.int .i64 g) := cell_keep hb1 (by simp) (by simp)
        have BW : Hid (Below w.heap.size w w1) := box_below hb1
        clear hb1
        go_wp2_with fail
        go_ret2
        unfold LsPost
        rw [HE.out]
        exact ⟨_, 2, rfl, ⟨Sl.of_lit (t := 3) (xs := [2, 4]) (Blk.new_ rfl rfl), by simp⟩, BW.out.alloc BW.out.size _⟩
      · have HE : Hid (shtR (3, f, g) = ([5], 0)) := by show _ = _; rw [HE0.out]; simp [shoR, hg]
        clear HE0
        first | (have hgb : (g != -1) = false := by simpa using hg) | (have hgb : (g != -1) = true := by simpa using hg)
        clear hg
        go_enter Tryd.func24, Tryd.ntmps24
        go_wp2_with fail
        refine (rCheck_any 3 f g _ HZ.out).mono ?_
        rintro e w1 ⟨rfl, hb1⟩
        have q0 : w1.cell? ⟨w.heap.size, 0, none⟩ = some (.int .i64 3) := cell_keep hb1 (by simp) (by simp)
        have q2 : w1.cell? ⟨w.heap.size, 2, none⟩ = some (.int .i64 g) := cell_keep hb1 (by simp) (by simp)
        have BW : Hid (Below w.heap.size w w1) := box_below hb1
        clear hb1
        go_wp2_with fail
        go_ret2
        unfold LsPost
        rw [HE.out]
        exact ⟨_, 1, rfl, ⟨Sl.of_lit (t := 3) (xs := [5]) (Blk.new_ rfl rfl), by simp⟩, BW.out.alloc BW.out.size _⟩
      · have HE : Hid (shtR (4, f, g) = ([4], 0)) := by show _ = _; rw [HE0.out]; simp [shoR, hg]
        clear HE0
        first | (have hgb : (g != -1) = false := by simpa using hg) | (have hgb : (g != -1) = true := by simpa using hg)
        clear hg
        go_enter Tryd.func24, Tryd.ntmps24
        go_wp2_with fail
        refine (rCheck_any 4 f g _ HZ.out).mono ?_
        rintro e w1 ⟨rfl, hb1⟩
        have q0 : w1.cell? ⟨w.heap.size, 0, none⟩ = some (.int .i64 4) := cell_keep hb1 (by simp) (by simp)
        have q2 : w1.cell? ⟨w.heap.size, 2, none⟩ = some (.int .i64 g) := cell_keep hb1 (by simp) (by simp)
        have BW : Hid (Below w.heap.size w w1) := box_below hb1
        clear hb1
        go_wp2_with fail
        go_ret2
        unfold LsPost
        rw [HE.out]
        exact ⟨_, 1, rfl, ⟨Sl.of_lit (t := 3) (xs := [4]) (Blk.new_ rfl rfl), by simp⟩, BW.out.alloc BW.out.size _⟩
      · have HE : Hid (shtR (5, f, g) = ([], 0)) := by show _ = _; rw [HE0.out]; simp [shoR, hg]
        clear HE0
        first | (have hgb : (g != -1) = false := by simpa using hg) | (have hgb : (g != -1) = true := by simpa using hg)
        clear hg
        go_enter Tryd.func24, Tryd.ntmps24
        go_wp2_with fail
        refine (rCheck_any 5 f g _ HZ.out).mono ?_
        rintro e w1 ⟨rfl, hb1⟩
        have q0 : w1.cell? ⟨w.heap.size, 0, none⟩ = some (.int .i64 5) := cell_keep hb1 (by simp) (by simp)
        have q2 : w1.cell? ⟨w.heap.size, 2, none⟩ = some (.int .i64 g) := cell_keep hb1 (by simp) (by simp)
        have BW : Hid (Below w.heap.size w w1) := box_below hb1
        clear hb1
        go_wp2_with fail
        go_ret2
        unfold LsPost
        rw [HE.out]
        exact ⟨none, 0, rfl, IW.nil, BW.out⟩
      · have HE : Hid (shtR (6, f, g) = ([], 9)) := by show _ = _; rw [HE0.out]; simp [shoR, hg]
        clear HE0
        first | (have hgb : (g != -1) = false := by simpa using hg) | (have hgb : (g != -1) = true := by simpa using hg)
        clear hg
        go_enter Tryd.func24, Tryd.ntmps24
        go_wp2_with fail
        refine (rCheck_any 6 f g _ HZ.out).mono ?_
        rintro e w1 ⟨rfl, hb1⟩
        have q0 : w1.cell? ⟨w.heap.size, 0, none⟩ = some (.int .i64 6) := cell_keep hb1 (by simp) (by simp)
        have q2 : w1.cell? ⟨w.heap.size, 2, none⟩ = some (.int .i64 g) := cell_keep hb1 (by simp) (by simp)
        have BW : Hid (Below w.heap.size w w1) := box_below hb1
        clear hb1
        go_wp2_with fail
        go_ret2
        unfold LsPost
        rw [HE.out]
        exact ⟨none, 0, rfl, IW.nil, BW.out⟩
      · have HE : Hid (shtR (7, f, g) = ([], 9)) := by show _ = _; rw [HE0.out]; simp [shoR, hg]
        clear HE0
        first | (have hgb : (g != -1) = false := by simpa using hg) | (have hgb : (g != -1) = true := by simpa using hg)
        clear hg
        go_enter Tryd.func24, Tryd.ntmps24
        go_wp2_with fail
        refine (rCheck_any 7 f g _ HZ.out).mono ?_
        rintro e w1 ⟨rfl, hb1⟩
        have q0 : w1.cell? ⟨w.heap.size, 0, none⟩ = some (.int .i64 7) := cell_keep hb1 (by simp) (by simp)
        have q2 : w1.cell? ⟨w.heap.size, 2, none⟩ = some (.int .i64 g) := cell_keep hb1 (by simp) (by simp)
        have BW : Hid (Below w.heap.size w w1) := box_below hb1
        clear hb1
        go_wp2_with fail
        go_ret2
        unfold LsPost
        rw [HE.out]
        exact ⟨none, 0, rfl, IW.nil, BW.out⟩
      · have HE : Hid (shtR (8, f, g) = ([], 9)) := by show _ = _; rw [HE0.out]; simp [shoR, hg]
        clear HE0
        first | (have hgb : (g != -1) = false := by simpa using hg) | (have hgb : (g != -1) = true := by simpa using hg)
        clear hg
        go_enter Tryd.func24, Tryd.ntmps24
        go_wp2_with fail
        refine (rCheck_any 8 f g _ HZ.out).mono ?_
        rintro e w1 ⟨rfl, hb1⟩
        have q0 : w1.cell? ⟨w.heap.size, 0, none⟩ = some (.int .i64 8) := cell_keep hb1 (by simp) (by simp)
        have q2 : w1.cell? ⟨w.heap.size, 2, none⟩ = some (.int .i64 g) := cell_keep hb1 (by simp) (by simp)
        have BW : Hid (Below w.heap.size w w1) := box_below hb1
        clear hb1
        go_wp2_with fail
        go_ret2
        unfold LsPost
        rw [HE.out]
        exact ⟨none, 0, rfl, IW.nil, BW.out⟩
  · have HE : Hid (shtR (s, f, g) = ([], z)) := by show _ = _; unfold shtR; rw [if_neg (by rw [hz]; exact h0), hz]
    have nz : (z != 0) = true := by simpa using h0
    have HZ := Lib.hid hz
    clear hz h0
    go_enter Tryd.func24, Tryd.ntmps24
    go_wp2_with fail
    refine (rCheck_any s f g _ HZ.out).mono ?_
    rintro e w1 ⟨rfl, hb1⟩
    go_wp2_with fail
    go_ret2
    unfold LsPost
    rw [HE.out]
    exact ⟨none, 0, rfl, IW.nil, (by repeat' (first | with_reducible exact Below.refl _ _ | with_reducible assumption | with_reducible apply Below.drew | with_reducible apply below_drewN | with_reducible apply Below.alloc | with_reducible apply Below.setCell | (with_reducible refine Below.trans ?_ (Below.mono (by assumption) ?_)) | (simp; done) | (simp; omega) | omega | with_reducible apply le_size_alloc | with_reducible apply le_size_drewN | with_reducible apply le_size_drew | with_reducible apply le_size_setCell | refine Nat.le_trans ?_ (Below.size (by assumption))))⟩
end Go.Proofs.YtngenoblifhnpaaDoor
