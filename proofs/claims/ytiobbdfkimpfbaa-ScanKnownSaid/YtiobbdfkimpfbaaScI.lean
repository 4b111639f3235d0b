/- headgateref30: asked, Step. Written by gen_sci.py. -/
import Derived.Test.YtiobbdfkimpfbaaScH
import Derived.Test.YtiobbdfkimpfbaaScG
import Derived.Test.YtiobbdfkimpfbaaRef4
namespace Go.Proofs.Ytiobbdfkimpfbaa
open Go.RowKit Go.Maps

set_option maxRecDepth 100000 in
set_option maxHeartbeats 4000000 in
theorem asked_any (A1 A2 A3 : Option Addr) (c1 c2 c3 : Nat) (xs ys : List Int) (rs : List Bool) (T : Int) (w : World) (h : InMem w A1 A2 A3 xs ys rs) :
    Calls Try.prog 41 #[.agg #[.slice A1 xs.length c1, .slice A2 ys.length c2, .slice A3 rs.length c3], .int .i64 T] w fun e w' => e = .returned (.int .i64 (sndS xs ys rs (tgtB T))) ∧ Below w.heap.size w w' := by
  have HM := Lib.hid h
  clear h
  obtain ⟨z, hz⟩ : ∃ z, lruChk xs ys rs = z := ⟨_, rfl⟩
  have HZ := Lib.hid hz
  by_cases h0 : z = 0
  · have hs : sndS xs ys rs (tgtB T) = if tgtB T then 0 else 2 := by unfold sndS; rw [hz, if_neg (by simpa using h0)]
    rw [hs]
    clear hz hs
    subst h0
    rcases (by omega : T < 0 ∨ (0 ≤ T ∧ T ≤ 256) ∨ (0 ≤ T ∧ 256 < T)) with h | ⟨h, h'⟩ | ⟨h, h'⟩
    · rw [show tgtB T = false by unfold tgtB; simp; omega]
      go_enter Try.func41, Try.ntmps41
      go_wp2_with fail
      refine (RCheck_any A1 A2 A3 c1 c2 c3 xs ys rs _ (HM.out.ext ((Below.refl _ _).alloc (Nat.le_refl _) _))).mono ?_
      rw [HZ.out]
      rintro e w1 ⟨rfl, hb1⟩
      go_wp2_with fail
      go_ret
      exact ⟨rfl, (by repeat' (first | with_reducible exact Below.refl _ _ | with_reducible assumption | with_reducible apply Below.drew | with_reducible apply below_drewN | with_reducible apply Below.alloc | with_reducible apply Below.setCell | (with_reducible refine Below.trans ?_ (Below.mono (by assumption) ?_)) | (simp; done) | (simp; omega) | omega | with_reducible apply le_size_alloc | with_reducible apply le_size_drewN | with_reducible apply le_size_drew | with_reducible apply le_size_setCell | refine Nat.le_trans ?_ (Below.size (by assumption))))⟩
    · rw [show tgtB T = true by unfold tgtB; simp; omega]
      have n1 : ¬ T < 0 := by omega
      have n2 : ¬ 256 < T := by omega
      clear h h'
      go_enter Try.func41, Try.ntmps41
      go_wp2_with fail
      refine (RCheck_any A1 A2 A3 c1 c2 c3 xs ys rs _ (HM.out.ext ((Below.refl _ _).alloc (Nat.le_refl _) _))).mono ?_
      rw [HZ.out]
      rintro e w1 ⟨rfl, hb1⟩
      go_wp2_with fail
      go_ret
      exact ⟨rfl, (by repeat' (first | with_reducible exact Below.refl _ _ | with_reducible assumption | with_reducible apply Below.drew | with_reducible apply below_drewN | with_reducible apply Below.alloc | with_reducible apply Below.setCell | (with_reducible refine Below.trans ?_ (Below.mono (by assumption) ?_)) | (simp; done) | (simp; omega) | omega | with_reducible apply le_size_alloc | with_reducible apply le_size_drewN | with_reducible apply le_size_drew | with_reducible apply le_size_setCell | refine Nat.le_trans ?_ (Below.size (by assumption))))⟩
    · rw [show tgtB T = false by unfold tgtB; simp; omega]
      have n1 : ¬ T < 0 := by omega
      clear h
      go_enter Try.func41, Try.ntmps41
      go_wp2_with fail
      refine (RCheck_any A1 A2 A3 c1 c2 c3 xs ys rs _ (HM.out.ext ((Below.refl _ _).alloc (Nat.le_refl _) _))).mono ?_
      rw [HZ.out]
      rintro e w1 ⟨rfl, hb1⟩
      go_wp2_with fail
      go_ret
      exact ⟨rfl, (by repeat' (first | with_reducible exact Below.refl _ _ | with_reducible assumption | with_reducible apply Below.drew | with_reducible apply below_drewN | with_reducible apply Below.alloc | with_reducible apply Below.setCell | (with_reducible refine Below.trans ?_ (Below.mono (by assumption) ?_)) | (simp; done) | (simp; omega) | omega | with_reducible apply le_size_alloc | with_reducible apply le_size_drewN | with_reducible apply le_size_drew | with_reducible apply le_size_setCell | refine Nat.le_trans ?_ (Below.size (by assumption))))⟩
  · have hs : sndS xs ys rs (tgtB T) = z := by unfold sndS; rw [hz, if_pos h0]
    rw [hs]
    have hzb : (z == 0) = false := by simpa using h0
    clear hz hs
    go_enter Try.func41, Try.ntmps41
    go_wp2_with fail
    refine (RCheck_any A1 A2 A3 c1 c2 c3 xs ys rs _ (HM.out.ext ((Below.refl _ _).alloc (Nat.le_refl _) _))).mono ?_
    rw [HZ.out]
    rintro e w1 ⟨rfl, hb1⟩
    go_wp2_with fail
    go_ret
    exact ⟨rfl, (by repeat' (first | with_reducible exact Below.refl _ _ | with_reducible assumption | with_reducible apply Below.drew | with_reducible apply below_drewN | with_reducible apply Below.alloc | with_reducible apply Below.setCell | (with_reducible refine Below.trans ?_ (Below.mono (by assumption) ?_)) | (simp; done) | (simp; omega) | omega | with_reducible apply le_size_alloc | with_reducible apply le_size_drewN | with_reducible apply le_size_drew | with_reducible apply le_size_setCell | refine Nat.le_trans ?_ (Below.size (by assumption))))⟩

set_option maxRecDepth 100000 in
set_option maxHeartbeats 4000000 in
theorem RStep_bad (A1 A2 A3 : Option Addr) (c1 c2 c3 : Nat) (xs ys : List Int) (rs : List Bool) (T : Int) (w : World) (h : InMem w A1 A2 A3 xs ys rs) {z : Int} (hz : sndS xs ys rs (tgtB T) = z) (h0 : z ≠ 0) :
    Calls Try.prog 14 #[.agg #[.slice A1 xs.length c1, .slice A2 ys.length c2, .slice A3 rs.length c3], .int .i64 T] w (SQ (fullS T xs ys rs) w) := by
  have HE : Hid (fullS T xs ys rs = ⟨0, 0, [], [], [], z⟩) := by show _ = _; unfold fullS; rw [hz, if_pos h0]
  rw [HE.out]
  have nz : (z != 0) = true := by simpa using h0
  clear h0
  have HM := Lib.hid h; have HZ := Lib.hid hz
  clear h hz
  obtain ⟨X, hX⟩ : ∃ X, (w.alloc (.cells #[.slice A1 xs.length c1, .slice A2 ys.length c2, .slice A3 rs.length c3] 25)).alloc (.cells #[.slice none 0 0, .slice none 0 0, .slice none 0 0] 25) = X := ⟨_, rfl⟩
  have k1 : Blk X w.heap.size 25 #[.slice A1 xs.length c1, .slice A2 ys.length c2, .slice A3 rs.length c3] := by rw [← hX]; exact (Blk.new_ rfl rfl).alloc_ _
  have k2 : Blk X (w.heap.size + 1) 25 #[.slice none 0 0, .slice none 0 0, .slice none 0 0] := by rw [← hX]; exact Blk.new_ (by simp) rfl
  have HBX : Hid (Below w.heap.size w X) := by show Below _ _ _; rw [← hX]; exact ((Below.refl _ _).alloc (Nat.le_refl _) _).alloc (by simp) _
  have q0 : X.cell? ⟨w.heap.size, 0, none⟩ = some (.slice A1 xs.length c1) := (k1.cell_ 0).trans (by simp)
  have q1 : X.cell? ⟨w.heap.size, 1, none⟩ = some (.slice A2 ys.length c2) := (k1.cell_ 1).trans (by simp)
  have q2 : X.cell? ⟨w.heap.size, 2, none⟩ = some (.slice A3 rs.length c3) := (k1.cell_ 2).trans (by simp)
  go_enter Try.func14, Try.ntmps14
  go_wp2_with fail
  (try rw [hX])
  refine (asked_any A1 A2 A3 c1 c2 c3 xs ys rs T _ (HM.out.ext HBX.out)).mono ?_
  rw [HZ.out]
  rintro e x4 ⟨rfl, hx4⟩
  have HB4 := Lib.hid (HBX.out.trans (hx4.mono HBX.out.size))
  have K1 := Lib.hid (k1.below_ hx4 k1.lt)
  have K2 := Lib.hid (k2.below_ hx4 k2.lt)
  have zx4 := k2.lt
  have zx5 := hx4.size
  clear hx4 k1 k2 HBX q0 q1 q2 hX
  have q0 : x4.cell? ⟨w.heap.size, 0, none⟩ = some (.slice A1 xs.length c1) := (K1.out.cell_ 0).trans (by simp)
  have q1 : x4.cell? ⟨w.heap.size, 1, none⟩ = some (.slice A2 ys.length c2) := (K1.out.cell_ 1).trans (by simp)
  have q2 : x4.cell? ⟨w.heap.size, 2, none⟩ = some (.slice A3 rs.length c3) := (K1.out.cell_ 2).trans (by simp)
  have y0 : x4.cell? ⟨w.heap.size + 1, 0, none⟩ = some (.slice none 0 0) := (K2.out.cell_ 0).trans (by simp)
  have y1 : x4.cell? ⟨w.heap.size + 1, 1, none⟩ = some (.slice none 0 0) := (K2.out.cell_ 1).trans (by simp)
  have y2 : x4.cell? ⟨w.heap.size + 1, 2, none⟩ = some (.slice none 0 0) := (K2.out.cell_ 2).trans (by simp)
  have g0 := K2.out.frozen_ 0
  have g1 := K2.out.frozen_ 1
  have g2 := K2.out.frozen_ 2
  go_wp2_with fail
  refine bodyPost_ret (v := .tuple #[.agg #[.slice none 0 0, .slice none 0 0, .slice none 0 0], .int .i64 0, .int .i64 0, .int .i64 z]) (by simp [results, Try.results14, go_sem, y0, y1, y2]) rfl ?_
  exact ⟨none, none, none, 0, 0, 0, rfl, inMem_none _, NewL.none_ _, ((HB4.out.setCell (p := ⟨w.heap.size + 1, 0, none⟩) (by simp) _).setCell (p := ⟨w.heap.size + 1, 1, none⟩) (by simp) _).setCell (p := ⟨w.heap.size + 1, 2, none⟩) (by simp) _⟩

set_option maxRecDepth 100000 in
set_option maxHeartbeats 4000000 in
theorem RStep_dem (A1 A2 A3 : Option Addr) (c1 c2 c3 : Nat) (xs ys : List Int) (rs : List Bool) (T : Int) (w : World) (h : InMem w A1 A2 A3 xs ys rs) (hz : sndS xs ys rs (tgtB T) = 0) (h0 : 0 < xs.length ∧ (ys.length : Int) < T) :
    Calls Try.prog 14 #[.agg #[.slice A1 xs.length c1, .slice A2 ys.length c2, .slice A3 rs.length c3], .int .i64 T] w (SQ (fullS T xs ys rs) w) := by
  have hR_ : stepS T xs ys rs = (1, lastF xs, dX xs ys, dY xs ys, rs.set (lastF xs).toNat false) := by unfold stepS; rw [if_pos h0]
  have HE : Hid (fullS T xs ys rs = ⟨1, lastF xs, dX xs ys, dY xs ys, rs.set (lastF xs).toNat false, 0⟩) := by show _ = _; unfold fullS; rw [hz, if_neg (by simp), hR_]
  rw [HE.out]
  have hc := (snd_ok hz).1
  have hl := chk_len hc
  have hv := valid_of_chk hc
  have HD : Hid (demS xs ys rs = ⟨dX xs ys, dY xs ys, rs.set (lastF xs).toNat false, 0⟩ ∧ demF xs ys rs = lastF xs) := by
    refine ⟨?_, ?_⟩
    · unfold demS; rw [if_neg (by simpa using hc), if_neg (by omega)]
    · unfold demF; rw [if_neg (by simpa using hc), if_neg (by omega)]
  have i0 : (0 : Int) < xs.length := by omega
  have i1 := h0.2
  clear h0 hv
  have HC := Lib.hid hc
  clear hc hR_
  obtain ⟨us, hus⟩ : ∃ l, dX xs ys = l := ⟨_, rfl⟩
  obtain ⟨vs, hvs⟩ : ∃ l, dY xs ys = l := ⟨_, rfl⟩
  obtain ⟨ss, hss⟩ : ∃ l, rs.set (lastF xs).toNat false = l := ⟨_, rfl⟩
  obtain ⟨f, hf⟩ : ∃ f, lastF xs = f := ⟨_, rfl⟩
  rw [hus, hvs, hss, hf] at HD
  rw [hus, hvs, hss, hf]
  clear hus hvs hss
  clear hf
  have HM := Lib.hid h; have HZ := Lib.hid hz
  clear h hz
  obtain ⟨X, hX⟩ : ∃ X, (w.alloc (.cells #[.slice A1 xs.length c1, .slice A2 ys.length c2, .slice A3 rs.length c3] 25)).alloc (.cells #[.slice none 0 0, .slice none 0 0, .slice none 0 0] 25) = X := ⟨_, rfl⟩
  have k1 : Blk X w.heap.size 25 #[.slice A1 xs.length c1, .slice A2 ys.length c2, .slice A3 rs.length c3] := by rw [← hX]; exact (Blk.new_ rfl rfl).alloc_ _
  have k2 : Blk X (w.heap.size + 1) 25 #[.slice none 0 0, .slice none 0 0, .slice none 0 0] := by rw [← hX]; exact Blk.new_ (by simp) rfl
  have HBX : Hid (Below w.heap.size w X) := by show Below _ _ _; rw [← hX]; exact ((Below.refl _ _).alloc (Nat.le_refl _) _).alloc (by simp) _
  have q0 : X.cell? ⟨w.heap.size, 0, none⟩ = some (.slice A1 xs.length c1) := (k1.cell_ 0).trans (by simp)
  have q1 : X.cell? ⟨w.heap.size, 1, none⟩ = some (.slice A2 ys.length c2) := (k1.cell_ 1).trans (by simp)
  have q2 : X.cell? ⟨w.heap.size, 2, none⟩ = some (.slice A3 rs.length c3) := (k1.cell_ 2).trans (by simp)
  go_enter Try.func14, Try.ntmps14
  go_wp2_with fail
  (try rw [hX])
  refine (asked_any A1 A2 A3 c1 c2 c3 xs ys rs T _ (HM.out.ext HBX.out)).mono ?_
  rw [HZ.out]
  rintro e x4 ⟨rfl, hx4⟩
  have HB4 := Lib.hid (HBX.out.trans (hx4.mono HBX.out.size))
  have K1 := Lib.hid (k1.below_ hx4 k1.lt)
  have K2 := Lib.hid (k2.below_ hx4 k2.lt)
  have zx4 := k2.lt
  have zx5 := hx4.size
  clear hx4 k1 k2 HBX q0 q1 q2 hX
  have q0 : x4.cell? ⟨w.heap.size, 0, none⟩ = some (.slice A1 xs.length c1) := (K1.out.cell_ 0).trans (by simp)
  have q1 : x4.cell? ⟨w.heap.size, 1, none⟩ = some (.slice A2 ys.length c2) := (K1.out.cell_ 1).trans (by simp)
  have q2 : x4.cell? ⟨w.heap.size, 2, none⟩ = some (.slice A3 rs.length c3) := (K1.out.cell_ 2).trans (by simp)
  go_wp2_with fail
  refine (RDemote_S A1 A2 A3 c1 c2 c3 xs ys rs _ (HM.out.ext HB4.out)).mono ?_
  rw [HD.out.1, HD.out.2]
  rintro e x5 ⟨B1, d1, B2, d2, B3, d3, rfl, hm5, hn5, hb5⟩
  dsimp only at hm5 hn5 ⊢
  have z45 := hb5.size
  have K25 := Lib.hid (K2.out.below_ hb5 K2.out.lt)
  have HM5 := Lib.hid hm5
  have HN7 : Hid (NewL (w.heap.size + 2) B1 B2 B3) := hn5.mono (by omega)
  have HB5 := Lib.hid (HB4.out.trans (hb5.mono HB4.out.size))
  have kl5 := K25.out.lt
  clear hm5 hn5 hb5 q0 q1 q2 K1 HB4
  have y0 : x5.cell? ⟨w.heap.size + 1, 0, none⟩ = some (.slice none 0 0) := (K25.out.cell_ 0).trans (by simp)
  have y1 : x5.cell? ⟨w.heap.size + 1, 1, none⟩ = some (.slice none 0 0) := (K25.out.cell_ 1).trans (by simp)
  have y2 : x5.cell? ⟨w.heap.size + 1, 2, none⟩ = some (.slice none 0 0) := (K25.out.cell_ 2).trans (by simp)
  have g0 := K25.out.frozen_ 0
  have g1 := K25.out.frozen_ 1
  have g2 := K25.out.frozen_ 2
  have nb1 : w.heap.size + 1 ≠ x5.heap.size := by omega
  have nb2 : x5.heap.size ≠ w.heap.size + 1 := by omega
  go_wp2_with fail
  clear y0 y1 y2 g0 g1 g2
  obtain ⟨U, hU⟩ : ∃ U, (((x5.setCell ⟨w.heap.size + 1, 0, none⟩ (.slice B1 us.length d1)).setCell ⟨w.heap.size + 1, 1, none⟩ (.slice B2 vs.length d2)).setCell ⟨w.heap.size + 1, 2, none⟩ (.slice B3 ss.length d3)).alloc (.cells #[.slice B1 us.length d1, .slice B2 vs.length d2, .slice B3 ss.length d3] 25) = U := ⟨_, rfl⟩
  have KU : Blk U (w.heap.size + 1) 25 #[.slice B1 us.length d1, .slice B2 vs.length d2, .slice B3 ss.length d3] := by
    rw [← hU]
    simpa using (((K25.out.set_ 0 (.slice B1 us.length d1)).set_ 1 (.slice B2 vs.length d2)).set_ 2 (.slice B3 ss.length d3)).alloc_ _
  have MU : InMem U B1 B2 B3 us vs ss := by
    rw [← hU]
    exact (((HM5.out.far_ HN7.out (show w.heap.size + 1 < w.heap.size + 2 by omega) 0 (.slice B1 us.length d1)).far_ HN7.out (show w.heap.size + 1 < w.heap.size + 2 by omega) 1 (.slice B2 vs.length d2)).far_ HN7.out (show w.heap.size + 1 < w.heap.size + 2 by omega) 2 (.slice B3 ss.length d3)).ext ((Below.refl _ _).alloc (Nat.le_refl _) _)
  have BU : Below w.heap.size w U := by
    rw [← hU]
    exact (((HB5.out.setCell (p := ⟨w.heap.size + 1, 0, none⟩) (by simp) _).setCell (p := ⟨w.heap.size + 1, 1, none⟩) (by simp) _).setCell (p := ⟨w.heap.size + 1, 2, none⟩) (by simp) _).alloc (by simp [World.setCell]; omega) _
  (try rw [hU])
  have u0 : U.cell? ⟨w.heap.size + 1, 0, none⟩ = some (.slice B1 us.length d1) := (KU.cell_ 0).trans (by simp)
  have u1 : U.cell? ⟨w.heap.size + 1, 1, none⟩ = some (.slice B2 vs.length d2) := (KU.cell_ 1).trans (by simp)
  have u2 : U.cell? ⟨w.heap.size + 1, 2, none⟩ = some (.slice B3 ss.length d3) := (KU.cell_ 2).trans (by simp)
  clear hU KU
  refine bodyPost_ret (v := .tuple #[.agg #[.slice B1 us.length d1, .slice B2 vs.length d2, .slice B3 ss.length d3], .int .i64 1, .int .i64 f, .int .i64 0]) (by simp [results, Try.results14, go_sem, u0, u1, u2]) rfl ?_
  exact ⟨_, _, _, _, _, _, rfl, MU, HN7.out.mono (by omega), BU⟩
end Go.Proofs.Ytiobbdfkimpfbaa
