/- headgateref30: asked, Step. Written by gen_sci.py. -/
/- headgateref30.Step: Nothing, Promote, WriteOut. Written by gen_sci.py. -/
/- Contracts of package scan: Direct; headgateref30: Direct. Written by gen_sco.py. -/
import Derived.Test.YtiobbdfkimpfbaaMgA
import Derived.Test.YtiobbdfkimpfbaaRef4
namespace Go.Proofs.Ytiobbdfkimpfbaa
set_option linter.unusedSimpArgs false
set_option linter.unusedVariables false
open Go.RowKit Go.Maps

set_option maxRecDepth 100000 in
set_option maxHeartbeats 4000000 in
theorem asked_any (A1 A2 A3 : Option Addr) (c1 c2 c3 : Nat) (xs ys : List Int) (rs : List Bool) (T : Int) (w : World) (h : InMem w A1 A2 A3 xs ys rs) :
    Calls Try.prog 41 #[.agg #[.slice A1 xs.length c1, .slice A2 ys.length c2, .slice A3 rs.length c3], .int .i64 T] w fun e w' => e = .returned (.int .i64 (sndS xs ys rs (tgtB T))) ∧ Below w.heap.size w w' := by
  have HM := Lib.hid h
  clear h
  obtain ⟨z, hz⟩ : ∃ z, lruChk xs ys rs = z := ⟨_, rfl⟩
  have HZ := Lib.hid hz
  by_cases h0 : z = 0
  · have hs : sndS xs ys rs (tgtB T) = if tgtB T then 0 else 2 := by unfold sndS; rw [hz, if_neg (by simpa using h0)]
    rw [hs]
    clear hz hs
    subst h0
    rcases (by omega : T < 0 ∨ (0 ≤ T ∧ T ≤ 256) ∨ (0 ≤ T ∧ 256 < T)) with h | ⟨h, h'⟩ | ⟨h, h'⟩
    · rw [show tgtB T = false by unfold tgtB; simp; omega]
      go_enter Try.func41, Try.ntmps41
      go_wp2_with fail
      refine (RCheck_any A1 A2 A3 c1 c2 c3 xs ys rs _ (HM.out.ext ((Below.refl _ _).alloc (Nat.le_refl _) _))).mono ?_
      rw [HZ.out]
      rintro e w1 ⟨rfl, hb1⟩
      go_wp2_with fail
      go_ret
      exact ⟨rfl, (by repeat' (first | with_reducible exact Below.refl _ _ | with_reducible assumption | with_reducible apply Below.drew | with_reducible apply below_drewN | with_reducible apply Below.alloc | with_reducible apply Below.setCell | (with_reducible refine Below.trans ?_ (Below.mono (by assumption) ?_)) | (simp; done) | (simp; omega) | omega | with_reducible apply le_size_alloc | with_reducible apply le_size_drewN | with_reducible apply le_size_drew | with_reducible apply le_size_setCell | refine Nat.le_trans ?_ (Below.size (by assumption))))⟩
    · rw [show tgtB T = true by unfold tgtB; simp; omega]
      have n1 : ¬ T < 0 := by omega
      have n2 : ¬ 256 < T := by omega
      clear h h'
      go_enter Try.func41, Try.ntmps41
      go_wp2_with fail
      refine (RCheck_any A1 A2 A3 c1 c2 c3 xs ys rs _ (HM.out.ext ((Below.refl _ _).alloc (Nat.le_refl _) _))).mono ?_
      rw [HZ.out]
      rintro e w1 ⟨rfl, hb1⟩
      go_wp2_with fail
      go_ret
      exact ⟨rfl, (by repeat' (first | with_reducible exact Below.refl _ _ | with_reducible assumption | with_reducible apply Below.drew | with_reducible apply below_drewN | with_reducible apply Below.alloc | with_reducible apply Below.setCell | (with_reducible refine Below.trans ?_ (Below.mono (by assumption) ?_)) | (simp; done) | (simp; omega) | omega | with_reducible apply le_size_alloc | with_reducible apply le_size_drewN | with_reducible apply le_size_drew | with_reducible apply le_size_setCell | refine Nat.le_trans ?_ (Below.size (by assumption))))⟩
    · rw [show tgtB T = false by unfold tgtB; simp; omega]
      have n1 : ¬ T < 0 := by omega
      clear h
      go_enter Try.func41, Try.ntmps41
      go_wp2_with fail
      refine (RCheck_any A1 A2 A3 c1 c2 c3 xs ys rs _ (HM.out.ext ((Below.refl _ _).alloc (Nat.le_refl _) _))).mono ?_
      rw [HZ.out]
      rintro e w1 ⟨rfl, hb1⟩
      go_wp2_with fail
      go_ret
      exact ⟨rfl, (by repeat' (first | with_reducible exact Below.refl _ _ | with_reducible assumption | with_reducible apply Below.drew | with_reducible apply below_drewN | with_reducible apply Below.alloc | with_reducible apply Below.setCell | (with_reducible refine Below.trans ?_ (Below.mono (by assumption) ?_)) | (simp; done) | (simp; omega) | omega | with_reducible apply le_size_alloc | with_reducible apply le_size_drewN | with_reducible apply le_size_drew | with_reducible apply le_size_setCell | refine Nat.le_trans ?_ (Below.size (by assumption))))⟩
  · have hs : sndS xs ys rs (tgtB T) = z := by unfold sndS; rw [hz, if_pos h0]
    rw [hs]
    have hzb : (z == 0) = false := by simpa using h0
    clear hz hs
    go_enter Try.func41, Try.ntmps41
    go_wp2_with fail
    refine (RCheck_any A1 A2 A3 c1 c2 c3 xs ys rs _ (HM.out.ext ((Below.refl _ _).alloc (Nat.le_refl _) _))).mono ?_
    rw [HZ.out]
    rintro e w1 ⟨rfl, hb1⟩
    go_wp2_with fail
    go_ret
    exact ⟨rfl, (by repeat' (first | with_reducible exact Below.refl _ _ | with_reducible assumption | with_reducible apply Below.drew | with_reducible apply below_drewN | with_reducible apply Below.alloc | with_reducible apply Below.setCell | (with_reducible refine Below.trans ?_ (Below.mono (by assumption) ?_)) | (simp; done) | (simp; omega) | omega | with_reducible apply le_size_alloc | with_reducible apply le_size_drewN | with_reducible apply le_size_drew | with_reducible apply le_size_setCell | refine Nat.le_trans ?_ (Below.size (by assumption))))⟩

set_option maxRecDepth 100000 in
set_option maxHeartbeats 4000000 in
theorem RStep_bad (A1 A2 A3 : Option Addr) (c1 c2 c3 : Nat) (xs ys : List Int) (rs : List Bool) (T : Int) (w : World) (h : InMem w A1 A2 A3 xs ys rs) {z : Int} (hz : sndS xs ys rs (tgtB T) = z) (h0 : z ≠ 0) :
    Calls Try.prog 14 #[.agg #[.slice A1 xs.length c1, .slice A2 ys.length c2, .slice A3 rs.length c3], .int .i64 T] w (SQ (fullS T xs ys rs) w) := by
  have HE : Hid (fullS T xs ys rs = ⟨0, 0, [], [], [], z⟩) := by show _ = _; unfold fullS; rw [hz, if_pos h0]
  rw [HE.out]
  have nz : (z != 0) = true := by simpa using h0
  clear h0
  have HM := Lib.hid h; have HZ := Lib.hid hz
  clear h hz
  obtain ⟨X, hX⟩ : ∃ X, (w.alloc (.cells #[.slice A1 xs.length c1, .slice A2 ys.length c2, .slice A3 rs.length c3] 25)).alloc (.cells #[.slice none 0 0, .slice none 0 0, .slice none 0 0] 25) = X := ⟨_, rfl⟩
  have k1 : Blk X w.heap.size 25 #[.slice A1 xs.length c1, .slice A2 ys.length c2, .slice A3 rs.length c3] := by rw [← hX]; exact (Blk.new_ rfl rfl).alloc_ _
  have k2 : Blk X (w.heap.size + 1) 25 #[.slice none 0 0, .slice none 0 0, .slice none 0 0] := by rw [← hX]; exact Blk.new_ (by simp) rfl
  have HBX : Hid (Below w.heap.size w X) := by show Below _ _ _; rw [← hX]; exact ((Below.refl _ _).alloc (Nat.le_refl _) _).alloc (by simp) _
  have q0 : X.cell? ⟨w.heap.size, 0, none⟩ = some (.slice A1 xs.length c1) := (k1.cell_ 0).trans (by simp)
  have q1 : X.cell? ⟨w.heap.size, 1, none⟩ = some (.slice A2 ys.length c2) := (k1.cell_ 1).trans (by simp)
  have q2 : X.cell? ⟨w.heap.size, 2, none⟩ = some (.slice A3 rs.length c3) := (k1.cell_ 2).trans (by simp)
  go_enter Try.func14, Try.ntmps14
  go_wp2_with fail
  (try rw [hX])
  refine (asked_any A1 A2 A3 c1 c2 c3 xs ys rs T _ (HM.out.ext HBX.out)).mono ?_
  rw [HZ.out]
  rintro e x4 ⟨rfl, hx4⟩
  have HB4 := Lib.hid (HBX.out.trans (hx4.mono HBX.out.size))
  have K1 := Lib.hid (k1.below_ hx4 k1.lt)
  have K2 := Lib.hid (k2.below_ hx4 k2.lt)
  have zx4 := k2.lt
  have zx5 := hx4.size
  clear hx4 k1 k2 HBX q0 q1 q2 hX
  have q0 : x4.cell? ⟨w.heap.size, 0, none⟩ = some (.slice A1 xs.length c1) := (K1.out.cell_ 0).trans (by simp)
  have q1 : x4.cell? ⟨w.heap.size, 1, none⟩ = some (.slice A2 ys.length c2) := (K1.out.cell_ 1).trans (by simp)
  have q2 : x4.cell? ⟨w.heap.size, 2, none⟩ = some (.slice A3 rs.length c3) := (K1.out.cell_ 2).trans (by simp)
  have y0 : x4.cell? ⟨w.heap.size + 1, 0, none⟩ = some (.slice none 0 0) := (K2.out.cell_ 0).trans (by simp)
  have y1 : x4.cell? ⟨w.heap.size + 1, 1, none⟩ = some (.slice none 0 0) := (K2.out.cell_ 1).trans (by simp)
  have y2 : x4.cell? ⟨w.heap.size + 1, 2, none⟩ = some (.slice none 0 0) := (K2.out.cell_ 2).trans (by simp)
  have g0 := K2.out.frozen_ 0
  have g1 := K2.out.frozen_ 1
  have g2 := K2.out.frozen_ 2
  go_wp2_with fail
  refine bodyPost_ret (v := .tuple #[.agg #[.slice none 0 0, .slice none 0 0, .slice none 0 0], .int .i64 0, .int .i64 0, .int .i64 z]) (by simp [results, Try.results14, go_sem, y0, y1, y2]) rfl ?_
  exact ⟨none, none, none, 0, 0, 0, rfl, inMem_none _, NewL.none_ _, ((HB4.out.setCell (p := ⟨w.heap.size + 1, 0, none⟩) (by simp) _).setCell (p := ⟨w.heap.size + 1, 1, none⟩) (by simp) _).setCell (p := ⟨w.heap.size + 1, 2, none⟩) (by simp) _⟩

set_option maxRecDepth 100000 in
set_option maxHeartbeats 4000000 in
theorem RStep_dem (A1 A2 A3 : Option Addr) (c1 c2 c3 : Nat) (xs ys : List Int) (rs : List Bool) (T : Int) (w : World) (h : InMem w A1 A2 A3 xs ys rs) (hz : sndS xs ys rs (tgtB T) = 0) (h0 : 0 < xs.length ∧ (ys.length : Int) < T) :
    Calls Try.prog 14 #[.agg #[.slice A1 xs.length c1, .slice A2 ys.length c2, .slice A3 rs.length c3], .int .i64 T] w (SQ (fullS T xs ys rs) w) := by
  have hR_ : stepS T xs ys rs = (1, lastF xs, dX xs ys, dY xs ys, rs.set (lastF xs).toNat false) := by unfold stepS; rw [if_pos h0]
  have HE : Hid (fullS T xs ys rs = ⟨1, lastF xs, dX xs ys, dY xs ys, rs.set (lastF xs).toNat false, 0⟩) := by show _ = _; unfold fullS; rw [hz, if_neg (by simp), hR_]
  rw [HE.out]
  have hc := (snd_ok hz).1
  have hl := chk_len hc
  have hv := valid_of_chk hc
  have HD : Hid (demS xs ys rs = ⟨dX xs ys, dY xs ys, rs.set (lastF xs).toNat false, 0⟩ ∧ demF xs ys rs = lastF xs) := by
    refine ⟨?_, ?_⟩
    · unfold demS; rw [if_neg (by simpa using hc), if_neg (by omega)]
    · unfold demF; rw [if_neg (by simpa using hc), if_neg (by omega)]
  have i0 : (0 : Int) < xs.length := by omega
  have i1 := h0.2
  clear h0 hv
  have HC := Lib.hid hc
  clear hc hR_
  obtain ⟨us, hus⟩ : ∃ l, dX xs ys = l := ⟨_, rfl⟩
  obtain ⟨vs, hvs⟩ : ∃ l, dY xs ys = l := ⟨_, rfl⟩
  obtain ⟨ss, hss⟩ : ∃ l, rs.set (lastF xs).toNat false = l := ⟨_, rfl⟩
  obtain ⟨f, hf⟩ : ∃ f, lastF xs = f := ⟨_, rfl⟩
  rw [hus, hvs, hss, hf] at HD
  rw [hus, hvs, hss, hf]
  clear hus hvs hss
  clear hf
  have HM := Lib.hid h; have HZ := Lib.hid hz
  clear h hz
  obtain ⟨X, hX⟩ : ∃ X, (w.alloc (.cells #[.slice A1 xs.length c1, .slice A2 ys.length c2, .slice A3 rs.length c3] 25)).alloc (.cells #[.slice none 0 0, .slice none 0 0, .slice none 0 0] 25) = X := ⟨_, rfl⟩
  have k1 : Blk X w.heap.size 25 #[.slice A1 xs.length c1, .slice A2 ys.length c2, .slice A3 rs.length c3] := by rw [← hX]; exact (Blk.new_ rfl rfl).alloc_ _
  have k2 : Blk X (w.heap.size + 1) 25 #[.slice none 0 0, .slice none 0 0, .slice none 0 0] := by rw [← hX]; exact Blk.new_ (by simp) rfl
  have HBX : Hid (Below w.heap.size w X) := by show Below _ _ _; rw [← hX]; exact ((Below.refl _ _).alloc (Nat.le_refl _) _).alloc (by simp) _
  have q0 : X.cell? ⟨w.heap.size, 0, none⟩ = some (.slice A1 xs.length c1) := (k1.cell_ 0).trans (by simp)
  have q1 : X.cell? ⟨w.heap.size, 1, none⟩ = some (.slice A2 ys.length c2) := (k1.cell_ 1).trans (by simp)
  have q2 : X.cell? ⟨w.heap.size, 2, none⟩ = some (.slice A3 rs.length c3) := (k1.cell_ 2).trans (by simp)
  go_enter Try.func14, Try.ntmps14
  go_wp2_with fail
  (try rw [hX])
  refine (asked_any A1 A2 A3 c1 c2 c3 xs ys rs T _ (HM.out.ext HBX.out)).mono ?_
  rw [HZ.out]
  rintro e x4 ⟨rfl, hx4⟩
  have HB4 := Lib.hid (HBX.out.trans (hx4.mono HBX.out.size))
  have K1 := Lib.hid (k1.below_ hx4 k1.lt)
  have K2 := Lib.hid (k2.below_ hx4 k2.lt)
  have zx4 := k2.lt
  have zx5 := hx4.size
  clear hx4 k1 k2 HBX q0 q1 q2 hX
  have q0 : x4.cell? ⟨w.heap.size, 0, none⟩ = some (.slice A1 xs.length c1) := (K1.out.cell_ 0).trans (by simp)
  have q1 : x4.cell? ⟨w.heap.size, 1, none⟩ = some (.slice A2 ys.length c2) := (K1.out.cell_ 1).trans (by simp)
  have q2 : x4.cell? ⟨w.heap.size, 2, none⟩ = some (.slice A3 rs.length c3) := (K1.out.cell_ 2).trans (by simp)
  go_wp2_with fail
  refine (RDemote_S A1 A2 A3 c1 c2 c3 xs ys rs _ (HM.out.ext HB4.out)).mono ?_
  rw [HD.out.1, HD.out.2]
  rintro e x5 ⟨B1, d1, B2, d2, B3, d3, rfl, hm5, hn5, hb5⟩
  dsimp only at hm5 hn5 ⊢
  have z45 := hb5.size
  have K25 := Lib.hid (K2.out.below_ hb5 K2.out.lt)
  have HM5 := Lib.hid hm5
  have HN7 : Hid (NewL (w.heap.size + 2) B1 B2 B3) := hn5.mono (by omega)
  have HB5 := Lib.hid (HB4.out.trans (hb5.mono HB4.out.size))
  have kl5 := K25.out.lt
  clear hm5 hn5 hb5 q0 q1 q2 K1 HB4
  have y0 : x5.cell? ⟨w.heap.size + 1, 0, none⟩ = some (.slice none 0 0) := (K25.out.cell_ 0).trans (by simp)
  have y1 : x5.cell? ⟨w.heap.size + 1, 1, none⟩ = some (.slice none 0 0) := (K25.out.cell_ 1).trans (by simp)
  have y2 : x5.cell? ⟨w.heap.size + 1, 2, none⟩ = some (.slice none 0 0) := (K25.out.cell_ 2).trans (by simp)
  have g0 := K25.out.frozen_ 0
  have g1 := K25.out.frozen_ 1
  have g2 := K25.out.frozen_ 2
  have nb1 : w.heap.size + 1 ≠ x5.heap.size := by omega
  have nb2 : x5.heap.size ≠ w.heap.size + 1 := by omega
  go_wp2_with fail
  clear y0 y1 y2 g0 g1 g2
  obtain ⟨U, hU⟩ : ∃ U, (((x5.setCell ⟨w.heap.size + 1, 0, none⟩ (.slice B1 us.length d1)).setCell ⟨w.heap.size + 1, 1, none⟩ (.slice B2 vs.length d2)).setCell ⟨w.heap.size + 1, 2, none⟩ (.slice B3 ss.length d3)).alloc (.cells #[.slice B1 us.length d1, .slice B2 vs.length d2, .slice B3 ss.length d3] 25) = U := ⟨_, rfl⟩
  have KU : Blk U (w.heap.size + 1) 25 #[.slice B1 us.length d1, .slice B2 vs.length d2, .slice B3 ss.length d3] := by
    rw [← hU]
    simpa using (((K25.out.set_ 0 (.slice B1 us.length d1)).set_ 1 (.slice B2 vs.length d2)).set_ 2 (.slice B3 ss.length d3)).alloc_ _
  have MU : InMem U B1 B2 B3 us vs ss := by
    rw [← hU]
    exact (((HM5.out.far_ HN7.out (show w.heap.size + 1 < w.heap.size + 2 by omega) 0 (.slice B1 us.length d1)).far_ HN7.out (show w.heap.size + 1 < w.heap.size + 2 by omega) 1 (.slice B2 vs.length d2)).far_ HN7.out (show w.heap.size + 1 < w.heap.size + 2 by omega) 2 (.slice B3 ss.length d3)).ext ((Below.refl _ _).alloc (Nat.le_refl _) _)
  have BU : Below w.heap.size w U := by
    rw [← hU]
    exact (((HB5.out.setCell (p := ⟨w.heap.size + 1, 0, none⟩) (by simp) _).setCell (p := ⟨w.heap.size + 1, 1, none⟩) (by simp) _).setCell (p := ⟨w.heap.size + 1, 2, none⟩) (by simp) _).alloc (by simp [World.setCell]; omega) _
  (try rw [hU])
  have u0 : U.cell? ⟨w.heap.size + 1, 0, none⟩ = some (.slice B1 us.length d1) := (KU.cell_ 0).trans (by simp)
  have u1 : U.cell? ⟨w.heap.size + 1, 1, none⟩ = some (.slice B2 vs.length d2) := (KU.cell_ 1).trans (by simp)
  have u2 : U.cell? ⟨w.heap.size + 1, 2, none⟩ = some (.slice B3 ss.length d3) := (KU.cell_ 2).trans (by simp)
  clear hU KU
  refine bodyPost_ret (v := .tuple #[.agg #[.slice B1 us.length d1, .slice B2 vs.length d2, .slice B3 ss.length d3], .int .i64 1, .int .i64 f, .int .i64 0]) (by simp [results, Try.results14, go_sem, u0, u1, u2]) rfl ?_
  exact ⟨_, _, _, _, _, _, rfl, MU, HN7.out.mono (by omega), BU⟩
end Go.Proofs.Ytiobbdfkimpfbaa
namespace Go.Proofs.Ytiobbdfkimpfbaa
set_option linter.unusedSimpArgs false
set_option linter.unusedVariables false
open Go.RowKit Go.Maps

theorem far3_ {w : World} {B b o : Nat} {v a1 a2 a3 : Value} (h : w.cell? ⟨b, o, none⟩ = some v) (hn : b ≠ B) : (((w.setCell ⟨B, 0, none⟩ a1).setCell ⟨B, 1, none⟩ a2).setCell ⟨B, 2, none⟩ a3).cell? ⟨b, o, none⟩ = some v := by
  rw [World.cell?_setCell_other _ _ _ _ (by intro e; injection e with e; exact hn e.symm), World.cell?_setCell_other _ _ _ _ (by intro e; injection e with e; exact hn e.symm), World.cell?_setCell_other _ _ _ _ (by intro e; injection e with e; exact hn e.symm)]
  exact h

set_option maxRecDepth 100000 in
set_option maxHeartbeats 4000000 in
theorem RStep_non (A1 A2 A3 : Option Addr) (c1 c2 c3 : Nat) (xs ys : List Int) (rs : List Bool) (T : Int) (w : World) (h : InMem w A1 A2 A3 xs ys rs) (hz : sndS xs ys rs (tgtB T) = 0) (h0 : ¬ (0 < xs.length ∧ (ys.length : Int) < T)) (h1 : ys.length = 0) :
    Calls Try.prog 14 #[.agg #[.slice A1 xs.length c1, .slice A2 ys.length c2, .slice A3 rs.length c3], .int .i64 T] w (SQ (fullS T xs ys rs) w) := by
  have hR_ : stepS T xs ys rs = (0, -1, xs, ys, rs) := by unfold stepS; rw [if_neg h0, if_pos h1]
  have HE : Hid (fullS T xs ys rs = ⟨0, -1, xs, ys, rs, 0⟩) := by show _ = _; unfold fullS; rw [hz, if_neg (by simp), hR_]
  rw [HE.out]
  have hc := (snd_ok hz).1
  have hl := chk_len hc
  have hv := valid_of_chk hc
  have i2 : ((ys.length : Int) == 0) = true := by simpa using h1
  clear hv h1
  have HC := Lib.hid hc
  clear hc hR_
  by_cases hx : 0 < xs.length
  · have j0 : (0 : Int) < xs.length := by omega
    have j1 : ¬ (ys.length : Int) < T := by omega
    clear h0
    have HM := Lib.hid h; have HZ := Lib.hid hz
    clear h hz
    obtain ⟨X, hX⟩ : ∃ X, (w.alloc (.cells #[.slice A1 xs.length c1, .slice A2 ys.length c2, .slice A3 rs.length c3] 25)).alloc (.cells #[.slice none 0 0, .slice none 0 0, .slice none 0 0] 25) = X := ⟨_, rfl⟩
    have k1 : Blk X w.heap.size 25 #[.slice A1 xs.length c1, .slice A2 ys.length c2, .slice A3 rs.length c3] := by rw [← hX]; exact (Blk.new_ rfl rfl).alloc_ _
    have k2 : Blk X (w.heap.size + 1) 25 #[.slice none 0 0, .slice none 0 0, .slice none 0 0] := by rw [← hX]; exact Blk.new_ (by simp) rfl
    have HBX : Hid (Below w.heap.size w X) := by show Below _ _ _; rw [← hX]; exact ((Below.refl _ _).alloc (Nat.le_refl _) _).alloc (by simp) _
    have q0 : X.cell? ⟨w.heap.size, 0, none⟩ = some (.slice A1 xs.length c1) := (k1.cell_ 0).trans (by simp)
    have q1 : X.cell? ⟨w.heap.size, 1, none⟩ = some (.slice A2 ys.length c2) := (k1.cell_ 1).trans (by simp)
    have q2 : X.cell? ⟨w.heap.size, 2, none⟩ = some (.slice A3 rs.length c3) := (k1.cell_ 2).trans (by simp)
    go_enter Try.func14, Try.ntmps14
    go_wp2_with fail
    (try rw [hX])
    refine (asked_any A1 A2 A3 c1 c2 c3 xs ys rs T _ (HM.out.ext HBX.out)).mono ?_
    rw [HZ.out]
    rintro e x4 ⟨rfl, hx4⟩
    have HB4 := Lib.hid (HBX.out.trans (hx4.mono HBX.out.size))
    have K1 := Lib.hid (k1.below_ hx4 k1.lt)
    have K2 := Lib.hid (k2.below_ hx4 k2.lt)
    have zx4 := k2.lt
    have zx5 := hx4.size
    clear hx4 k1 k2 HBX q0 q1 q2 hX
    have q0 : x4.cell? ⟨w.heap.size, 0, none⟩ = some (.slice A1 xs.length c1) := (K1.out.cell_ 0).trans (by simp)
    have q1 : x4.cell? ⟨w.heap.size, 1, none⟩ = some (.slice A2 ys.length c2) := (K1.out.cell_ 1).trans (by simp)
    have q2 : x4.cell? ⟨w.heap.size, 2, none⟩ = some (.slice A3 rs.length c3) := (K1.out.cell_ 2).trans (by simp)
    go_wp2_with fail
    refine (Sown_any A1 A2 A3 c1 c2 c3 xs ys rs _ (HM.out.ext HB4.out).a (HM.out.ext HB4.out).i (HM.out.ext HB4.out).r (by omega) (by omega) (by omega)).mono ?_
    rintro e x5 ⟨B1, d1, B2, d2, B3, d3, rfl, ho5, hb5⟩
    have z45 := hb5.size
    have K25 := Lib.hid (K2.out.below_ hb5 K2.out.lt)
    have HM5 := Lib.hid (ho5.memV HC.out)
    have HN7 : Hid (NewL (w.heap.size + 2) B1 B2 B3) := ho5.new_.mono (by omega)
    have HB5 := Lib.hid (HB4.out.trans (hb5.mono HB4.out.size))
    have kl5 := K25.out.lt
    clear ho5 hb5 q0 q1 q2 K1 HB4
    have y0 : x5.cell? ⟨w.heap.size + 1, 0, none⟩ = some (.slice none 0 0) := (K25.out.cell_ 0).trans (by simp)
    have y1 : x5.cell? ⟨w.heap.size + 1, 1, none⟩ = some (.slice none 0 0) := (K25.out.cell_ 1).trans (by simp)
    have y2 : x5.cell? ⟨w.heap.size + 1, 2, none⟩ = some (.slice none 0 0) := (K25.out.cell_ 2).trans (by simp)
    have g0 := K25.out.frozen_ 0
    have g1 := K25.out.frozen_ 1
    have g2 := K25.out.frozen_ 2
    go_wp2_with fail
    clear y0 y1 y2 g0 g1 g2
    obtain ⟨U, hU⟩ : ∃ U, ((x5.setCell ⟨w.heap.size + 1, 0, none⟩ (.slice B1 xs.length d1)).setCell ⟨w.heap.size + 1, 1, none⟩ (.slice B2 ys.length d2)).setCell ⟨w.heap.size + 1, 2, none⟩ (.slice B3 rs.length d3) = U := ⟨_, rfl⟩
    have KU : Blk U (w.heap.size + 1) 25 #[.slice B1 xs.length d1, .slice B2 ys.length d2, .slice B3 rs.length d3] := by
      rw [← hU]
      simpa using (((K25.out.set_ 0 (.slice B1 xs.length d1)).set_ 1 (.slice B2 ys.length d2)).set_ 2 (.slice B3 rs.length d3))
    have MU : InMem U B1 B2 B3 xs ys rs := by
      rw [← hU]
      exact (((HM5.out.far_ HN7.out (show w.heap.size + 1 < w.heap.size + 2 by omega) 0 (.slice B1 xs.length d1)).far_ HN7.out (show w.heap.size + 1 < w.heap.size + 2 by omega) 1 (.slice B2 ys.length d2)).far_ HN7.out (show w.heap.size + 1 < w.heap.size + 2 by omega) 2 (.slice B3 rs.length d3))
    have BU : Below w.heap.size w U := by
      rw [← hU]
      exact (((HB5.out.setCell (p := ⟨w.heap.size + 1, 0, none⟩) (by simp) _).setCell (p := ⟨w.heap.size + 1, 1, none⟩) (by simp) _).setCell (p := ⟨w.heap.size + 1, 2, none⟩) (by simp) _)
    (try rw [hU])
    have u0 : U.cell? ⟨w.heap.size + 1, 0, none⟩ = some (.slice B1 xs.length d1) := (KU.cell_ 0).trans (by simp)
    have u1 : U.cell? ⟨w.heap.size + 1, 1, none⟩ = some (.slice B2 ys.length d2) := (KU.cell_ 1).trans (by simp)
    have u2 : U.cell? ⟨w.heap.size + 1, 2, none⟩ = some (.slice B3 rs.length d3) := (KU.cell_ 2).trans (by simp)
    clear hU KU
    refine bodyPost_ret (v := .tuple #[.agg #[.slice B1 xs.length d1, .slice B2 ys.length d2, .slice B3 rs.length d3], .int .i64 0, .int .i64 (-1), .int .i64 0]) (by simp [results, Try.results14, go_sem, u0, u1, u2]) rfl ?_
    exact ⟨_, _, _, _, _, _, rfl, MU, HN7.out.mono (by omega), BU⟩
  · have j0 : ¬ (0 : Int) < xs.length := by omega
    clear h0
    have HM := Lib.hid h; have HZ := Lib.hid hz
    clear h hz
    obtain ⟨X, hX⟩ : ∃ X, (w.alloc (.cells #[.slice A1 xs.length c1, .slice A2 ys.length c2, .slice A3 rs.length c3] 25)).alloc (.cells #[.slice none 0 0, .slice none 0 0, .slice none 0 0] 25) = X := ⟨_, rfl⟩
    have k1 : Blk X w.heap.size 25 #[.slice A1 xs.length c1, .slice A2 ys.length c2, .slice A3 rs.length c3] := by rw [← hX]; exact (Blk.new_ rfl rfl).alloc_ _
    have k2 : Blk X (w.heap.size + 1) 25 #[.slice none 0 0, .slice none 0 0, .slice none 0 0] := by rw [← hX]; exact Blk.new_ (by simp) rfl
    have HBX : Hid (Below w.heap.size w X) := by show Below _ _ _; rw [← hX]; exact ((Below.refl _ _).alloc (Nat.le_refl _) _).alloc (by simp) _
    have q0 : X.cell? ⟨w.heap.size, 0, none⟩ = some (.slice A1 xs.length c1) := (k1.cell_ 0).trans (by simp)
    have q1 : X.cell? ⟨w.heap.size, 1, none⟩ = some (.slice A2 ys.length c2) := (k1.cell_ 1).trans (by simp)
    have q2 : X.cell? ⟨w.heap.size, 2, none⟩ = some (.slice A3 rs.length c3) := (k1.cell_ 2).trans (by simp)
    go_enter Try.func14, Try.ntmps14
    go_wp2_with fail
    (try rw [hX])
    refine (asked_any A1 A2 A3 c1 c2 c3 xs ys rs T _ (HM.out.ext HBX.out)).mono ?_
    rw [HZ.out]
    rintro e x4 ⟨rfl, hx4⟩
    have HB4 := Lib.hid (HBX.out.trans (hx4.mono HBX.out.size))
    have K1 := Lib.hid (k1.below_ hx4 k1.lt)
    have K2 := Lib.hid (k2.below_ hx4 k2.lt)
    have zx4 := k2.lt
    have zx5 := hx4.size
    clear hx4 k1 k2 HBX q0 q1 q2 hX
    have q0 : x4.cell? ⟨w.heap.size, 0, none⟩ = some (.slice A1 xs.length c1) := (K1.out.cell_ 0).trans (by simp)
    have q1 : x4.cell? ⟨w.heap.size, 1, none⟩ = some (.slice A2 ys.length c2) := (K1.out.cell_ 1).trans (by simp)
    have q2 : x4.cell? ⟨w.heap.size, 2, none⟩ = some (.slice A3 rs.length c3) := (K1.out.cell_ 2).trans (by simp)
    go_wp2_with fail
    refine (Sown_any A1 A2 A3 c1 c2 c3 xs ys rs _ (HM.out.ext HB4.out).a (HM.out.ext HB4.out).i (HM.out.ext HB4.out).r (by omega) (by omega) (by omega)).mono ?_
    rintro e x5 ⟨B1, d1, B2, d2, B3, d3, rfl, ho5, hb5⟩
    have z45 := hb5.size
    have K25 := Lib.hid (K2.out.below_ hb5 K2.out.lt)
    have HM5 := Lib.hid (ho5.memV HC.out)
    have HN7 : Hid (NewL (w.heap.size + 2) B1 B2 B3) := ho5.new_.mono (by omega)
    have HB5 := Lib.hid (HB4.out.trans (hb5.mono HB4.out.size))
    have kl5 := K25.out.lt
    clear ho5 hb5 q0 q1 q2 K1 HB4
    have y0 : x5.cell? ⟨w.heap.size + 1, 0, none⟩ = some (.slice none 0 0) := (K25.out.cell_ 0).trans (by simp)
    have y1 : x5.cell? ⟨w.heap.size + 1, 1, none⟩ = some (.slice none 0 0) := (K25.out.cell_ 1).trans (by simp)
    have y2 : x5.cell? ⟨w.heap.size + 1, 2, none⟩ = some (.slice none 0 0) := (K25.out.cell_ 2).trans (by simp)
    have g0 := K25.out.frozen_ 0
    have g1 := K25.out.frozen_ 1
    have g2 := K25.out.frozen_ 2
    go_wp2_with fail
    clear y0 y1 y2 g0 g1 g2
    obtain ⟨U, hU⟩ : ∃ U, ((x5.setCell ⟨w.heap.size + 1, 0, none⟩ (.slice B1 xs.length d1)).setCell ⟨w.heap.size + 1, 1, none⟩ (.slice B2 ys.length d2)).setCell ⟨w.heap.size + 1, 2, none⟩ (.slice B3 rs.length d3) = U := ⟨_, rfl⟩
    have KU : Blk U (w.heap.size + 1) 25 #[.slice B1 xs.length d1, .slice B2 ys.length d2, .slice B3 rs.length d3] := by
      rw [← hU]
      simpa using (((K25.out.set_ 0 (.slice B1 xs.length d1)).set_ 1 (.slice B2 ys.length d2)).set_ 2 (.slice B3 rs.length d3))
    have MU : InMem U B1 B2 B3 xs ys rs := by
      rw [← hU]
      exact (((HM5.out.far_ HN7.out (show w.heap.size + 1 < w.heap.size + 2 by omega) 0 (.slice B1 xs.length d1)).far_ HN7.out (show w.heap.size + 1 < w.heap.size + 2 by omega) 1 (.slice B2 ys.length d2)).far_ HN7.out (show w.heap.size + 1 < w.heap.size + 2 by omega) 2 (.slice B3 rs.length d3))
    have BU : Below w.heap.size w U := by
      rw [← hU]
      exact (((HB5.out.setCell (p := ⟨w.heap.size + 1, 0, none⟩) (by simp) _).setCell (p := ⟨w.heap.size + 1, 1, none⟩) (by simp) _).setCell (p := ⟨w.heap.size + 1, 2, none⟩) (by simp) _)
    (try rw [hU])
    have u0 : U.cell? ⟨w.heap.size + 1, 0, none⟩ = some (.slice B1 xs.length d1) := (KU.cell_ 0).trans (by simp)
    have u1 : U.cell? ⟨w.heap.size + 1, 1, none⟩ = some (.slice B2 ys.length d2) := (KU.cell_ 1).trans (by simp)
    have u2 : U.cell? ⟨w.heap.size + 1, 2, none⟩ = some (.slice B3 rs.length d3) := (KU.cell_ 2).trans (by simp)
    clear hU KU
    refine bodyPost_ret (v := .tuple #[.agg #[.slice B1 xs.length d1, .slice B2 ys.length d2, .slice B3 rs.length d3], .int .i64 0, .int .i64 (-1), .int .i64 0]) (by simp [results, Try.results14, go_sem, u0, u1, u2]) rfl ?_
    exact ⟨_, _, _, _, _, _, rfl, MU, HN7.out.mono (by omega), BU⟩

set_option maxRecDepth 100000 in
set_option maxHeartbeats 4000000 in
theorem RStep_pro (A1 A2 A3 : Option Addr) (c1 c2 c3 : Nat) (xs ys : List Int) (rs : List Bool) (T : Int) (w : World) (h : InMem w A1 A2 A3 xs ys rs) (hz : sndS xs ys rs (tgtB T) = 0) (h0 : ¬ (0 < xs.length ∧ (ys.length : Int) < T)) (h1 : 0 < ys.length) (h2 : lastB ys rs = true) :
    Calls Try.prog 14 #[.agg #[.slice A1 xs.length c1, .slice A2 ys.length c2, .slice A3 rs.length c3], .int .i64 T] w (SQ (fullS T xs ys rs) w) := by
  have hR_ : stepS T xs ys rs = (2, lastF ys, pX xs ys, pY xs ys, rs.set (lastF ys).toNat false) := by unfold stepS; rw [if_neg h0, if_neg (by omega), if_pos h2]
  have HE : Hid (fullS T xs ys rs = ⟨2, lastF ys, pX xs ys, pY xs ys, rs.set (lastF ys).toNat false, 0⟩) := by show _ = _; unfold fullS; rw [hz, if_neg (by simp), hR_]
  rw [HE.out]
  have hc := (snd_ok hz).1
  have hl := chk_len hc
  have hv := valid_of_chk hc
  have HD : Hid (proS xs ys rs = ⟨pX xs ys, pY xs ys, rs.set (lastF ys).toNat false, 0⟩ ∧ proF xs ys rs = lastF ys) := by
    refine ⟨?_, ?_⟩
    · unfold proS; rw [if_neg (by simpa using hc), if_neg (by omega)]
    · unfold proF; rw [if_neg (by simpa using hc), if_neg (by omega)]
  have hin := hv.range (lastF ys) (by simp [lastF_mem h1])
  have hf2 := hv.hi
  have i2 : ((ys.length : Int) == 0) = false := by rw [beq_eq_false_iff_ne]; omega
  obtain ⟨bL, oL, rfl, hbL, hcL⟩ := last_at h.i h1
  obtain ⟨bR, oR, rfl, hbR, hcR⟩ := bit_at h.r hin.1 hin.2
  unfold lastB at h2
  rw [h2] at hcR
  obtain ⟨n, hn⟩ : ∃ n : Nat, ys.length = n + 1 := ⟨ys.length - 1, by omega⟩
  have HNN := Lib.hid hn
  rw [hn, show n + 1 - 1 = n by omega] at hcL
  have hnl : n < 256 := by omega
  obtain ⟨f, hf⟩ : ∃ f, lastF ys = f := ⟨_, rfl⟩
  rw [hf] at hcL hcR hin
  obtain ⟨G, rfl⟩ : ∃ G : Nat, f = G := ⟨f.toNat, by omega⟩
  rw [Int.toNat_natCast] at hcR
  have hG : (G : Int) < rs.length := hin.2
  have hG2 : rs.length ≤ 256 := hf2
  have hwn : IntKind.i64.wrap (n : Int) = n := by rw [IntKind.wrap_i64]; omega
  have hwg : IntKind.i64.wrap (G : Int) = G := by rw [IntKind.wrap_i64]; omega
  have hws : IntKind.i64.wrap ((ys.length : Int) - 1) = n := by rw [IntKind.wrap_i64]; omega
  have hnn : (n : Int) < ys.length := by omega
  rw [hf] at HD
  rw [hf]
  obtain ⟨us, hus⟩ : ∃ l, pX xs ys = l := ⟨_, rfl⟩
  obtain ⟨vs, hvs⟩ : ∃ l, pY xs ys = l := ⟨_, rfl⟩
  obtain ⟨ss, hss⟩ : ∃ l, rs.set (G : Int).toNat false = l := ⟨_, rfl⟩
  rw [hus, hvs, hss] at HD
  rw [hus, hvs, hss]
  clear hus hvs hss hf hv hn h1 h2 hin hf2
  have HC := Lib.hid hc
  clear hc hR_
  by_cases hx : 0 < xs.length
  · have j0 : (0 : Int) < xs.length := by omega
    have j1 : ¬ (ys.length : Int) < T := by omega
    clear h0
    have HM := Lib.hid h; have HZ := Lib.hid hz
    clear h hz
    obtain ⟨X, hX⟩ : ∃ X, (w.alloc (.cells #[.slice A1 xs.length c1, .slice (some ⟨bL, oL, none⟩) ys.length c2, .slice (some ⟨bR, oR, none⟩) rs.length c3] 25)).alloc (.cells #[.slice none 0 0, .slice none 0 0, .slice none 0 0] 25) = X := ⟨_, rfl⟩
    have k1 : Blk X w.heap.size 25 #[.slice A1 xs.length c1, .slice (some ⟨bL, oL, none⟩) ys.length c2, .slice (some ⟨bR, oR, none⟩) rs.length c3] := by rw [← hX]; exact (Blk.new_ rfl rfl).alloc_ _
    have k2 : Blk X (w.heap.size + 1) 25 #[.slice none 0 0, .slice none 0 0, .slice none 0 0] := by rw [← hX]; exact Blk.new_ (by simp) rfl
    have HBX : Hid (Below w.heap.size w X) := by show Below _ _ _; rw [← hX]; exact ((Below.refl _ _).alloc (Nat.le_refl _) _).alloc (by simp) _
    have q0 : X.cell? ⟨w.heap.size, 0, none⟩ = some (.slice A1 xs.length c1) := (k1.cell_ 0).trans (by simp)
    have q1 : X.cell? ⟨w.heap.size, 1, none⟩ = some (.slice (some ⟨bL, oL, none⟩) ys.length c2) := (k1.cell_ 1).trans (by simp)
    have q2 : X.cell? ⟨w.heap.size, 2, none⟩ = some (.slice (some ⟨bR, oR, none⟩) rs.length c3) := (k1.cell_ 2).trans (by simp)
    go_enter Try.func14, Try.ntmps14
    go_wp2_with fail
    (try rw [hX])
    refine (asked_any A1 (some ⟨bL, oL, none⟩) (some ⟨bR, oR, none⟩) c1 c2 c3 xs ys rs T _ (HM.out.ext HBX.out)).mono ?_
    rw [HZ.out]
    rintro e x4 ⟨rfl, hx4⟩
    have HB4 := Lib.hid (HBX.out.trans (hx4.mono HBX.out.size))
    have K1 := Lib.hid (k1.below_ hx4 k1.lt)
    have K2 := Lib.hid (k2.below_ hx4 k2.lt)
    have zx4 := k2.lt
    have zx5 := hx4.size
    clear hx4 k1 k2 HBX q0 q1 q2 hX
    have q0 : x4.cell? ⟨w.heap.size, 0, none⟩ = some (.slice A1 xs.length c1) := (K1.out.cell_ 0).trans (by simp)
    have q1 : x4.cell? ⟨w.heap.size, 1, none⟩ = some (.slice (some ⟨bL, oL, none⟩) ys.length c2) := (K1.out.cell_ 1).trans (by simp)
    have q2 : x4.cell? ⟨w.heap.size, 2, none⟩ = some (.slice (some ⟨bR, oR, none⟩) rs.length c3) := (K1.out.cell_ 2).trans (by simp)
    go_wp2_with fail
    refine wp_region_chain2 [0, 1, 0, 1, 0, 0, 0, 1, 0, 1] [[], [], [], [], [], [], [], [], [], []] [.is ?fan0, .kn ?fan1, .is ?fan2, .kn ?fan3, .is ?fan4, .is ?fan5, .is ?fan6, .kn ?fan7, .is ?fan8, .kn ?fan9] (by rfl) (by rfl) (by kernel_rfl) (by kernel_rfl) (by kernel_rfl) (by kernel_rfl) (by kernel_rfl) (by kernel_rfl) (lts_is (lts_kn (lts_is (lts_kn (lts_is (lts_is (lts_is (lts_kn (lts_is (lts_kn lts_nil)))))))))) (fun W0 hb0 hz0 => ?_)
    rotate_left 10
    rw [show lateIdx [0, 1, 0, 1, 0, 0, 0, 1, 0, 1] = [] from by rfl]
    have kW := K1.out.below_ hb0 K1.out.lt
    have zW := kW.lt
    have p1 : W0.cell? ⟨w.heap.size, 1, none⟩ = some (.slice (some ⟨bL, oL, none⟩) ys.length c2) := (kW.cell_ 1).trans (by simp)
    have p2 : W0.cell? ⟨w.heap.size, 2, none⟩ = some (.slice (some ⟨bR, oR, none⟩) rs.length c3) := (kW.cell_ 2).trans (by simp)
    have hbX := HB4.out.trans (hb0.mono HB4.out.size)
    have pL := cell_keep hbX hcL hbL
    have pR := cell_keep hbX hcR hbR
    have zL := Nat.lt_of_lt_of_le hbL hbX.size
    have zR := Nat.lt_of_lt_of_le hbR hbX.size
    refine chn_is (stp_pure (by rfl) ?yan0) ?ran0
    case yan0 =>
      intro w
      go_simp
      first | done | with_reducible rfl
    (try simp only [Act.put, List.setIfInBounds_toArray, List.set_cons_zero, List.set_cons_succ, List.nil_append, List.cons_append, Nat.reduceAdd])
    refine chn_kn (stp_take (by rfl) ?yan1) ?ran1
    case yan1 =>
      intro w hbw hd
      have r2 := cell_keep hbw p2 zW
      clear hd
      go_simp
      first | done | with_reducible rfl
    (try simp only [Act.put, List.setIfInBounds_toArray, List.set_cons_zero, List.set_cons_succ, List.nil_append, List.cons_append, Nat.reduceAdd])
    refine chn_is (stp_pure (by rfl) ?yan2) ?ran2
    case yan2 =>
      intro w
      go_simp
      first | done | with_reducible rfl
    (try simp only [Act.put, List.setIfInBounds_toArray, List.set_cons_zero, List.set_cons_succ, List.nil_append, List.cons_append, Nat.reduceAdd])
    refine chn_kn (stp_take (by rfl) ?yan3) ?ran3
    case yan3 =>
      intro w hbw hd
      have r1 := cell_keep hbw p1 zW
      clear hd
      go_simp
      first | done | with_reducible rfl
    (try simp only [Act.put, List.setIfInBounds_toArray, List.set_cons_zero, List.set_cons_succ, List.nil_append, List.cons_append, Nat.reduceAdd])
    refine chn_is (stp_pure (by rfl) ?yan4) ?ran4
    case yan4 =>
      intro w
      go_simp
      first | done | with_reducible rfl
    (try simp only [Act.put, List.setIfInBounds_toArray, List.set_cons_zero, List.set_cons_succ, List.nil_append, List.cons_append, Nat.reduceAdd])
    refine chn_is (stp_pure (by rfl) ?yan5) ?ran5
    case yan5 =>
      intro w
      go_simp
      first | done | with_reducible rfl
    (try simp only [Act.put, List.setIfInBounds_toArray, List.set_cons_zero, List.set_cons_succ, List.nil_append, List.cons_append, Nat.reduceAdd])
    refine chn_is (stp_pure (by rfl) ?yan6) ?ran6
    case yan6 =>
      intro w
      go_simp
      first | done | with_reducible rfl
    (try simp only [Act.put, List.setIfInBounds_toArray, List.set_cons_zero, List.set_cons_succ, List.nil_append, List.cons_append, Nat.reduceAdd])
    refine chn_kn (stp_take (by rfl) ?yan7) ?ran7
    case yan7 =>
      intro w hbw hd
      have r9 := cell_keep hbw pL zL
      clear hd
      go_simp
      first | done | with_reducible rfl
    (try simp only [Act.put, List.setIfInBounds_toArray, List.set_cons_zero, List.set_cons_succ, List.nil_append, List.cons_append, Nat.reduceAdd])
    refine chn_is (stp_pure (by rfl) ?yan8) ?ran8
    case yan8 =>
      intro w
      go_simp
      first | done | with_reducible rfl
    (try simp only [Act.put, List.setIfInBounds_toArray, List.set_cons_zero, List.set_cons_succ, List.nil_append, List.cons_append, Nat.reduceAdd])
    refine chn_kn (stp_take (by rfl) ?yan9) ?ran9
    case yan9 =>
      intro w hbw hd
      have r9 := cell_keep hbw pR zR
      clear hd
      go_simp
      first | done | with_reducible rfl
    (try simp only [Act.put, List.setIfInBounds_toArray, List.set_cons_zero, List.set_cons_succ, List.nil_append, List.cons_append, Nat.reduceAdd])
    refine chn_end (fun wz lo hi hbz hd hR => ?_)
    have hbb := hb0.trans (hbz.mono hb0.size)
    have HB4' := Lib.hid (HB4.out.trans (hbb.mono HB4.out.size))
    have K1' := Lib.hid (K1.out.below_ hbb K1.out.lt)
    have K2' := Lib.hid (K2.out.below_ hbb K2.out.lt)
    have zb := hbb.size
    clear hd hR hb0 hbz hz0 zW kW p1 p2 pL pR zL zR hbX hbb
    refine late_none ?_
    obtain ⟨x9, rfl⟩ : ∃ x9 : World, x9 = wz := ⟨_, rfl⟩
    clear HB4 K1 K2 q0 q1 q2
    obtain ⟨HB4, K1, K2⟩ := And.intro HB4' (And.intro K1' K2')
    clear HB4' K1' K2'
    have q0 : x9.cell? ⟨w.heap.size, 0, none⟩ = some (.slice A1 xs.length c1) := (K1.out.cell_ 0).trans (by simp)
    have q1 : x9.cell? ⟨w.heap.size, 1, none⟩ = some (.slice (some ⟨bL, oL, none⟩) ys.length c2) := (K1.out.cell_ 1).trans (by simp)
    have q2 : x9.cell? ⟨w.heap.size, 2, none⟩ = some (.slice (some ⟨bR, oR, none⟩) rs.length c3) := (K1.out.cell_ 2).trans (by simp)
    go_wp2_with fail
    refine (RPromote_S A1 (some ⟨bL, oL, none⟩) (some ⟨bR, oR, none⟩) c1 c2 c3 xs ys rs _ (HM.out.ext HB4.out)).mono ?_
    rw [HD.out.1, HD.out.2]
    rintro e x5 ⟨B1, d1, B2, d2, B3, d3, rfl, hm5, hn5, hb5⟩
    dsimp only at hm5 hn5 ⊢
    have z45 := hb5.size
    have K25 := Lib.hid (K2.out.below_ hb5 K2.out.lt)
    have HM5 := Lib.hid hm5
    have HN7 : Hid (NewL (w.heap.size + 2) B1 B2 B3) := hn5.mono (by omega)
    have HB5 := Lib.hid (HB4.out.trans (hb5.mono HB4.out.size))
    have kl5 := K25.out.lt
    clear hm5 hn5 hb5 q0 q1 q2 K1 HB4
    have y0 : x5.cell? ⟨w.heap.size + 1, 0, none⟩ = some (.slice none 0 0) := (K25.out.cell_ 0).trans (by simp)
    have y1 : x5.cell? ⟨w.heap.size + 1, 1, none⟩ = some (.slice none 0 0) := (K25.out.cell_ 1).trans (by simp)
    have y2 : x5.cell? ⟨w.heap.size + 1, 2, none⟩ = some (.slice none 0 0) := (K25.out.cell_ 2).trans (by simp)
    have g0 := K25.out.frozen_ 0
    have g1 := K25.out.frozen_ 1
    have g2 := K25.out.frozen_ 2
    have nb1 : w.heap.size + 1 ≠ x5.heap.size := by omega
    have nb2 : x5.heap.size ≠ w.heap.size + 1 := by omega
    go_wp2_with fail
    clear y0 y1 y2 g0 g1 g2
    obtain ⟨U, hU⟩ : ∃ U, (((x5.setCell ⟨w.heap.size + 1, 0, none⟩ (.slice B1 us.length d1)).setCell ⟨w.heap.size + 1, 1, none⟩ (.slice B2 vs.length d2)).setCell ⟨w.heap.size + 1, 2, none⟩ (.slice B3 ss.length d3)).alloc (.cells #[.slice B1 us.length d1, .slice B2 vs.length d2, .slice B3 ss.length d3] 25) = U := ⟨_, rfl⟩
    have KU : Blk U (w.heap.size + 1) 25 #[.slice B1 us.length d1, .slice B2 vs.length d2, .slice B3 ss.length d3] := by
      rw [← hU]
      simpa using (((K25.out.set_ 0 (.slice B1 us.length d1)).set_ 1 (.slice B2 vs.length d2)).set_ 2 (.slice B3 ss.length d3)).alloc_ _
    have MU : InMem U B1 B2 B3 us vs ss := by
      rw [← hU]
      exact (((HM5.out.far_ HN7.out (show w.heap.size + 1 < w.heap.size + 2 by omega) 0 (.slice B1 us.length d1)).far_ HN7.out (show w.heap.size + 1 < w.heap.size + 2 by omega) 1 (.slice B2 vs.length d2)).far_ HN7.out (show w.heap.size + 1 < w.heap.size + 2 by omega) 2 (.slice B3 ss.length d3)).ext ((Below.refl _ _).alloc (Nat.le_refl _) _)
    have BU : Below w.heap.size w U := by
      rw [← hU]
      exact (((HB5.out.setCell (p := ⟨w.heap.size + 1, 0, none⟩) (by simp) _).setCell (p := ⟨w.heap.size + 1, 1, none⟩) (by simp) _).setCell (p := ⟨w.heap.size + 1, 2, none⟩) (by simp) _).alloc (by simp [World.setCell]; omega) _
    (try rw [hU])
    have u0 : U.cell? ⟨w.heap.size + 1, 0, none⟩ = some (.slice B1 us.length d1) := (KU.cell_ 0).trans (by simp)
    have u1 : U.cell? ⟨w.heap.size + 1, 1, none⟩ = some (.slice B2 vs.length d2) := (KU.cell_ 1).trans (by simp)
    have u2 : U.cell? ⟨w.heap.size + 1, 2, none⟩ = some (.slice B3 ss.length d3) := (KU.cell_ 2).trans (by simp)
    clear hU KU
    refine bodyPost_ret (v := .tuple #[.agg #[.slice B1 us.length d1, .slice B2 vs.length d2, .slice B3 ss.length d3], .int .i64 2, .int .i64 (G : Int), .int .i64 0]) (by simp [results, Try.results14, go_sem, u0, u1, u2]) rfl ?_
    exact ⟨_, _, _, _, _, _, rfl, MU, HN7.out.mono (by omega), BU⟩
  · have j0 : ¬ (0 : Int) < xs.length := by omega
    clear h0
    have HM := Lib.hid h; have HZ := Lib.hid hz
    clear h hz
    obtain ⟨X, hX⟩ : ∃ X, (w.alloc (.cells #[.slice A1 xs.length c1, .slice (some ⟨bL, oL, none⟩) ys.length c2, .slice (some ⟨bR, oR, none⟩) rs.length c3] 25)).alloc (.cells #[.slice none 0 0, .slice none 0 0, .slice none 0 0] 25) = X := ⟨_, rfl⟩
    have k1 : Blk X w.heap.size 25 #[.slice A1 xs.length c1, .slice (some ⟨bL, oL, none⟩) ys.length c2, .slice (some ⟨bR, oR, none⟩) rs.length c3] := by rw [← hX]; exact (Blk.new_ rfl rfl).alloc_ _
    have k2 : Blk X (w.heap.size + 1) 25 #[.slice none 0 0, .slice none 0 0, .slice none 0 0] := by rw [← hX]; exact Blk.new_ (by simp) rfl
    have HBX : Hid (Below w.heap.size w X) := by show Below _ _ _; rw [← hX]; exact ((Below.refl _ _).alloc (Nat.le_refl _) _).alloc (by simp) _
    have q0 : X.cell? ⟨w.heap.size, 0, none⟩ = some (.slice A1 xs.length c1) := (k1.cell_ 0).trans (by simp)
    have q1 : X.cell? ⟨w.heap.size, 1, none⟩ = some (.slice (some ⟨bL, oL, none⟩) ys.length c2) := (k1.cell_ 1).trans (by simp)
    have q2 : X.cell? ⟨w.heap.size, 2, none⟩ = some (.slice (some ⟨bR, oR, none⟩) rs.length c3) := (k1.cell_ 2).trans (by simp)
    go_enter Try.func14, Try.ntmps14
    go_wp2_with fail
    (try rw [hX])
    refine (asked_any A1 (some ⟨bL, oL, none⟩) (some ⟨bR, oR, none⟩) c1 c2 c3 xs ys rs T _ (HM.out.ext HBX.out)).mono ?_
    rw [HZ.out]
    rintro e x4 ⟨rfl, hx4⟩
    have HB4 := Lib.hid (HBX.out.trans (hx4.mono HBX.out.size))
    have K1 := Lib.hid (k1.below_ hx4 k1.lt)
    have K2 := Lib.hid (k2.below_ hx4 k2.lt)
    have zx4 := k2.lt
    have zx5 := hx4.size
    clear hx4 k1 k2 HBX q0 q1 q2 hX
    have q0 : x4.cell? ⟨w.heap.size, 0, none⟩ = some (.slice A1 xs.length c1) := (K1.out.cell_ 0).trans (by simp)
    have q1 : x4.cell? ⟨w.heap.size, 1, none⟩ = some (.slice (some ⟨bL, oL, none⟩) ys.length c2) := (K1.out.cell_ 1).trans (by simp)
    have q2 : x4.cell? ⟨w.heap.size, 2, none⟩ = some (.slice (some ⟨bR, oR, none⟩) rs.length c3) := (K1.out.cell_ 2).trans (by simp)
    go_wp2_with fail
    refine wp_region_chain2 [0, 1, 0, 1, 0, 0, 0, 1, 0, 1] [[], [], [], [], [], [], [], [], [], []] [.is ?fbn0, .kn ?fbn1, .is ?fbn2, .kn ?fbn3, .is ?fbn4, .is ?fbn5, .is ?fbn6, .kn ?fbn7, .is ?fbn8, .kn ?fbn9] (by rfl) (by rfl) (by kernel_rfl) (by kernel_rfl) (by kernel_rfl) (by kernel_rfl) (by kernel_rfl) (by kernel_rfl) (lts_is (lts_kn (lts_is (lts_kn (lts_is (lts_is (lts_is (lts_kn (lts_is (lts_kn lts_nil)))))))))) (fun W0 hb0 hz0 => ?_)
    rotate_left 10
    rw [show lateIdx [0, 1, 0, 1, 0, 0, 0, 1, 0, 1] = [] from by rfl]
    have kW := K1.out.below_ hb0 K1.out.lt
    have zW := kW.lt
    have p1 : W0.cell? ⟨w.heap.size, 1, none⟩ = some (.slice (some ⟨bL, oL, none⟩) ys.length c2) := (kW.cell_ 1).trans (by simp)
    have p2 : W0.cell? ⟨w.heap.size, 2, none⟩ = some (.slice (some ⟨bR, oR, none⟩) rs.length c3) := (kW.cell_ 2).trans (by simp)
    have hbX := HB4.out.trans (hb0.mono HB4.out.size)
    have pL := cell_keep hbX hcL hbL
    have pR := cell_keep hbX hcR hbR
    have zL := Nat.lt_of_lt_of_le hbL hbX.size
    have zR := Nat.lt_of_lt_of_le hbR hbX.size
    refine chn_is (stp_pure (by rfl) ?ybn0) ?rbn0
    case ybn0 =>
      intro w
      go_simp
      first | done | with_reducible rfl
    (try simp only [Act.put, List.setIfInBounds_toArray, List.set_cons_zero, List.set_cons_succ, List.nil_append, List.cons_append, Nat.reduceAdd])
    refine chn_kn (stp_take (by rfl) ?ybn1) ?rbn1
    case ybn1 =>
      intro w hbw hd
      have r2 := cell_keep hbw p2 zW
      clear hd
      go_simp
      first | done | with_reducible rfl
    (try simp only [Act.put, List.setIfInBounds_toArray, List.set_cons_zero, List.set_cons_succ, List.nil_append, List.cons_append, Nat.reduceAdd])
    refine chn_is (stp_pure (by rfl) ?ybn2) ?rbn2
    case ybn2 =>
      intro w
      go_simp
      first | done | with_reducible rfl
    (try simp only [Act.put, List.setIfInBounds_toArray, List.set_cons_zero, List.set_cons_succ, List.nil_append, List.cons_append, Nat.reduceAdd])
    refine chn_kn (stp_take (by rfl) ?ybn3) ?rbn3
    case ybn3 =>
      intro w hbw hd
      have r1 := cell_keep hbw p1 zW
      clear hd
      go_simp
      first | done | with_reducible rfl
    (try simp only [Act.put, List.setIfInBounds_toArray, List.set_cons_zero, List.set_cons_succ, List.nil_append, List.cons_append, Nat.reduceAdd])
    refine chn_is (stp_pure (by rfl) ?ybn4) ?rbn4
    case ybn4 =>
      intro w
      go_simp
      first | done | with_reducible rfl
    (try simp only [Act.put, List.setIfInBounds_toArray, List.set_cons_zero, List.set_cons_succ, List.nil_append, List.cons_append, Nat.reduceAdd])
    refine chn_is (stp_pure (by rfl) ?ybn5) ?rbn5
    case ybn5 =>
      intro w
      go_simp
      first | done | with_reducible rfl
    (try simp only [Act.put, List.setIfInBounds_toArray, List.set_cons_zero, List.set_cons_succ, List.nil_append, List.cons_append, Nat.reduceAdd])
    refine chn_is (stp_pure (by rfl) ?ybn6) ?rbn6
    case ybn6 =>
      intro w
      go_simp
      first | done | with_reducible rfl
    (try simp only [Act.put, List.setIfInBounds_toArray, List.set_cons_zero, List.set_cons_succ, List.nil_append, List.cons_append, Nat.reduceAdd])
    refine chn_kn (stp_take (by rfl) ?ybn7) ?rbn7
    case ybn7 =>
      intro w hbw hd
      have r9 := cell_keep hbw pL zL
      clear hd
      go_simp
      first | done | with_reducible rfl
    (try simp only [Act.put, List.setIfInBounds_toArray, List.set_cons_zero, List.set_cons_succ, List.nil_append, List.cons_append, Nat.reduceAdd])
    refine chn_is (stp_pure (by rfl) ?ybn8) ?rbn8
    case ybn8 =>
      intro w
      go_simp
      first | done | with_reducible rfl
    (try simp only [Act.put, List.setIfInBounds_toArray, List.set_cons_zero, List.set_cons_succ, List.nil_append, List.cons_append, Nat.reduceAdd])
    refine chn_kn (stp_take (by rfl) ?ybn9) ?rbn9
    case ybn9 =>
      intro w hbw hd
      have r9 := cell_keep hbw pR zR
      clear hd
      go_simp
      first | done | with_reducible rfl
    (try simp only [Act.put, List.setIfInBounds_toArray, List.set_cons_zero, List.set_cons_succ, List.nil_append, List.cons_append, Nat.reduceAdd])
    refine chn_end (fun wz lo hi hbz hd hR => ?_)
    have hbb := hb0.trans (hbz.mono hb0.size)
    have HB4' := Lib.hid (HB4.out.trans (hbb.mono HB4.out.size))
    have K1' := Lib.hid (K1.out.below_ hbb K1.out.lt)
    have K2' := Lib.hid (K2.out.below_ hbb K2.out.lt)
    have zb := hbb.size
    clear hd hR hb0 hbz hz0 zW kW p1 p2 pL pR zL zR hbX hbb
    refine late_none ?_
    obtain ⟨x9, rfl⟩ : ∃ x9 : World, x9 = wz := ⟨_, rfl⟩
    clear HB4 K1 K2 q0 q1 q2
    obtain ⟨HB4, K1, K2⟩ := And.intro HB4' (And.intro K1' K2')
    clear HB4' K1' K2'
    have q0 : x9.cell? ⟨w.heap.size, 0, none⟩ = some (.slice A1 xs.length c1) := (K1.out.cell_ 0).trans (by simp)
    have q1 : x9.cell? ⟨w.heap.size, 1, none⟩ = some (.slice (some ⟨bL, oL, none⟩) ys.length c2) := (K1.out.cell_ 1).trans (by simp)
    have q2 : x9.cell? ⟨w.heap.size, 2, none⟩ = some (.slice (some ⟨bR, oR, none⟩) rs.length c3) := (K1.out.cell_ 2).trans (by simp)
    go_wp2_with fail
    refine (RPromote_S A1 (some ⟨bL, oL, none⟩) (some ⟨bR, oR, none⟩) c1 c2 c3 xs ys rs _ (HM.out.ext HB4.out)).mono ?_
    rw [HD.out.1, HD.out.2]
    rintro e x5 ⟨B1, d1, B2, d2, B3, d3, rfl, hm5, hn5, hb5⟩
    dsimp only at hm5 hn5 ⊢
    have z45 := hb5.size
    have K25 := Lib.hid (K2.out.below_ hb5 K2.out.lt)
    have HM5 := Lib.hid hm5
    have HN7 : Hid (NewL (w.heap.size + 2) B1 B2 B3) := hn5.mono (by omega)
    have HB5 := Lib.hid (HB4.out.trans (hb5.mono HB4.out.size))
    have kl5 := K25.out.lt
    clear hm5 hn5 hb5 q0 q1 q2 K1 HB4
    have y0 : x5.cell? ⟨w.heap.size + 1, 0, none⟩ = some (.slice none 0 0) := (K25.out.cell_ 0).trans (by simp)
    have y1 : x5.cell? ⟨w.heap.size + 1, 1, none⟩ = some (.slice none 0 0) := (K25.out.cell_ 1).trans (by simp)
    have y2 : x5.cell? ⟨w.heap.size + 1, 2, none⟩ = some (.slice none 0 0) := (K25.out.cell_ 2).trans (by simp)
    have g0 := K25.out.frozen_ 0
    have g1 := K25.out.frozen_ 1
    have g2 := K25.out.frozen_ 2
    have nb1 : w.heap.size + 1 ≠ x5.heap.size := by omega
    have nb2 : x5.heap.size ≠ w.heap.size + 1 := by omega
    go_wp2_with fail
    clear y0 y1 y2 g0 g1 g2
    obtain ⟨U, hU⟩ : ∃ U, (((x5.setCell ⟨w.heap.size + 1, 0, none⟩ (.slice B1 us.length d1)).setCell ⟨w.heap.size + 1, 1, none⟩ (.slice B2 vs.length d2)).setCell ⟨w.heap.size + 1, 2, none⟩ (.slice B3 ss.length d3)).alloc (.cells #[.slice B1 us.length d1, .slice B2 vs.length d2, .slice B3 ss.length d3] 25) = U := ⟨_, rfl⟩
    have KU : Blk U (w.heap.size + 1) 25 #[.slice B1 us.length d1, .slice B2 vs.length d2, .slice B3 ss.length d3] := by
      rw [← hU]
      simpa using (((K25.out.set_ 0 (.slice B1 us.length d1)).set_ 1 (.slice B2 vs.length d2)).set_ 2 (.slice B3 ss.length d3)).alloc_ _
    have MU : InMem U B1 B2 B3 us vs ss := by
      rw [← hU]
      exact (((HM5.out.far_ HN7.out (show w.heap.size + 1 < w.heap.size + 2 by omega) 0 (.slice B1 us.length d1)).far_ HN7.out (show w.heap.size + 1 < w.heap.size + 2 by omega) 1 (.slice B2 vs.length d2)).far_ HN7.out (show w.heap.size + 1 < w.heap.size + 2 by omega) 2 (.slice B3 ss.length d3)).ext ((Below.refl _ _).alloc (Nat.le_refl _) _)
    have BU : Below w.heap.size w U := by
      rw [← hU]
      exact (((HB5.out.setCell (p := ⟨w.heap.size + 1, 0, none⟩) (by simp) _).setCell (p := ⟨w.heap.size + 1, 1, none⟩) (by simp) _).setCell (p := ⟨w.heap.size + 1, 2, none⟩) (by simp) _).alloc (by simp [World.setCell]; omega) _
    (try rw [hU])
    have u0 : U.cell? ⟨w.heap.size + 1, 0, none⟩ = some (.slice B1 us.length d1) := (KU.cell_ 0).trans (by simp)
    have u1 : U.cell? ⟨w.heap.size + 1, 1, none⟩ = some (.slice B2 vs.length d2) := (KU.cell_ 1).trans (by simp)
    have u2 : U.cell? ⟨w.heap.size + 1, 2, none⟩ = some (.slice B3 ss.length d3) := (KU.cell_ 2).trans (by simp)
    clear hU KU
    refine bodyPost_ret (v := .tuple #[.agg #[.slice B1 us.length d1, .slice B2 vs.length d2, .slice B3 ss.length d3], .int .i64 2, .int .i64 (G : Int), .int .i64 0]) (by simp [results, Try.results14, go_sem, u0, u1, u2]) rfl ?_
    exact ⟨_, _, _, _, _, _, rfl, MU, HN7.out.mono (by omega), BU⟩

set_option maxRecDepth 100000 in
set_option maxHeartbeats 4000000 in
theorem RStep_fnd (A1 A2 A3 : Option Addr) (c1 c2 c3 : Nat) (xs ys : List Int) (rs : List Bool) (T : Int) (w : World) (h : InMem w A1 A2 A3 xs ys rs) (hz : sndS xs ys rs (tgtB T) = 0) (h0 : ¬ (0 < xs.length ∧ (ys.length : Int) < T)) (h1 : 0 < ys.length) (h2 : lastB ys rs = false) :
    Calls Try.prog 14 #[.agg #[.slice A1 xs.length c1, .slice A2 ys.length c2, .slice A3 rs.length c3], .int .i64 T] w (SQ (fullS T xs ys rs) w) := by
  have hR_ : stepS T xs ys rs = (3, lastF ys, xs, ys, rs) := by unfold stepS; rw [if_neg h0, if_neg (by omega), if_neg (by rw [h2]; simp)]
  have HE : Hid (fullS T xs ys rs = ⟨3, lastF ys, xs, ys, rs, 0⟩) := by show _ = _; unfold fullS; rw [hz, if_neg (by simp), hR_]
  rw [HE.out]
  have hc := (snd_ok hz).1
  have hl := chk_len hc
  have hv := valid_of_chk hc
  have hin := hv.range (lastF ys) (by simp [lastF_mem h1])
  have hf2 := hv.hi
  have i2 : ((ys.length : Int) == 0) = false := by rw [beq_eq_false_iff_ne]; omega
  obtain ⟨bL, oL, rfl, hbL, hcL⟩ := last_at h.i h1
  obtain ⟨bR, oR, rfl, hbR, hcR⟩ := bit_at h.r hin.1 hin.2
  unfold lastB at h2
  rw [h2] at hcR
  obtain ⟨n, hn⟩ : ∃ n : Nat, ys.length = n + 1 := ⟨ys.length - 1, by omega⟩
  have HNN := Lib.hid hn
  rw [hn, show n + 1 - 1 = n by omega] at hcL
  have hnl : n < 256 := by omega
  obtain ⟨f, hf⟩ : ∃ f, lastF ys = f := ⟨_, rfl⟩
  rw [hf] at hcL hcR hin
  obtain ⟨G, rfl⟩ : ∃ G : Nat, f = G := ⟨f.toNat, by omega⟩
  rw [Int.toNat_natCast] at hcR
  have hG : (G : Int) < rs.length := hin.2
  have hG2 : rs.length ≤ 256 := hf2
  have hwn : IntKind.i64.wrap (n : Int) = n := by rw [IntKind.wrap_i64]; omega
  have hwg : IntKind.i64.wrap (G : Int) = G := by rw [IntKind.wrap_i64]; omega
  have hws : IntKind.i64.wrap ((ys.length : Int) - 1) = n := by rw [IntKind.wrap_i64]; omega
  have hnn : (n : Int) < ys.length := by omega
  rw [hf]
  clear hf hv hn h1 h2 hin hf2
  have HC := Lib.hid hc
  clear hc hR_
  by_cases hx : 0 < xs.length
  · have j0 : (0 : Int) < xs.length := by omega
    have j1 : ¬ (ys.length : Int) < T := by omega
    clear h0
    have HM := Lib.hid h; have HZ := Lib.hid hz
    clear h hz
    obtain ⟨X, hX⟩ : ∃ X, (w.alloc (.cells #[.slice A1 xs.length c1, .slice (some ⟨bL, oL, none⟩) ys.length c2, .slice (some ⟨bR, oR, none⟩) rs.length c3] 25)).alloc (.cells #[.slice none 0 0, .slice none 0 0, .slice none 0 0] 25) = X := ⟨_, rfl⟩
    have k1 : Blk X w.heap.size 25 #[.slice A1 xs.length c1, .slice (some ⟨bL, oL, none⟩) ys.length c2, .slice (some ⟨bR, oR, none⟩) rs.length c3] := by rw [← hX]; exact (Blk.new_ rfl rfl).alloc_ _
    have k2 : Blk X (w.heap.size + 1) 25 #[.slice none 0 0, .slice none 0 0, .slice none 0 0] := by rw [← hX]; exact Blk.new_ (by simp) rfl
    have HBX : Hid (Below w.heap.size w X) := by show Below _ _ _; rw [← hX]; exact ((Below.refl _ _).alloc (Nat.le_refl _) _).alloc (by simp) _
    have q0 : X.cell? ⟨w.heap.size, 0, none⟩ = some (.slice A1 xs.length c1) := (k1.cell_ 0).trans (by simp)
    have q1 : X.cell? ⟨w.heap.size, 1, none⟩ = some (.slice (some ⟨bL, oL, none⟩) ys.length c2) := (k1.cell_ 1).trans (by simp)
    have q2 : X.cell? ⟨w.heap.size, 2, none⟩ = some (.slice (some ⟨bR, oR, none⟩) rs.length c3) := (k1.cell_ 2).trans (by simp)
    go_enter Try.func14, Try.ntmps14
    go_wp2_with fail
    (try rw [hX])
    refine (asked_any A1 (some ⟨bL, oL, none⟩) (some ⟨bR, oR, none⟩) c1 c2 c3 xs ys rs T _ (HM.out.ext HBX.out)).mono ?_
    rw [HZ.out]
    rintro e x4 ⟨rfl, hx4⟩
    have HB4 := Lib.hid (HBX.out.trans (hx4.mono HBX.out.size))
    have K1 := Lib.hid (k1.below_ hx4 k1.lt)
    have K2 := Lib.hid (k2.below_ hx4 k2.lt)
    have zx4 := k2.lt
    have zx5 := hx4.size
    clear hx4 k1 k2 HBX q0 q1 q2 hX
    have q0 : x4.cell? ⟨w.heap.size, 0, none⟩ = some (.slice A1 xs.length c1) := (K1.out.cell_ 0).trans (by simp)
    have q1 : x4.cell? ⟨w.heap.size, 1, none⟩ = some (.slice (some ⟨bL, oL, none⟩) ys.length c2) := (K1.out.cell_ 1).trans (by simp)
    have q2 : x4.cell? ⟨w.heap.size, 2, none⟩ = some (.slice (some ⟨bR, oR, none⟩) rs.length c3) := (K1.out.cell_ 2).trans (by simp)
    go_wp2_with fail
    refine wp_region_chain2 [0, 1, 0, 1, 0, 0, 0, 1, 0, 1] [[], [], [], [], [], [], [], [], [], []] [.is ?fan0, .kn ?fan1, .is ?fan2, .kn ?fan3, .is ?fan4, .is ?fan5, .is ?fan6, .kn ?fan7, .is ?fan8, .kn ?fan9] (by rfl) (by rfl) (by kernel_rfl) (by kernel_rfl) (by kernel_rfl) (by kernel_rfl) (by kernel_rfl) (by kernel_rfl) (lts_is (lts_kn (lts_is (lts_kn (lts_is (lts_is (lts_is (lts_kn (lts_is (lts_kn lts_nil)))))))))) (fun W0 hb0 hz0 => ?_)
    rotate_left 10
    rw [show lateIdx [0, 1, 0, 1, 0, 0, 0, 1, 0, 1] = [] from by rfl]
    have kW := K1.out.below_ hb0 K1.out.lt
    have zW := kW.lt
    have p1 : W0.cell? ⟨w.heap.size, 1, none⟩ = some (.slice (some ⟨bL, oL, none⟩) ys.length c2) := (kW.cell_ 1).trans (by simp)
    have p2 : W0.cell? ⟨w.heap.size, 2, none⟩ = some (.slice (some ⟨bR, oR, none⟩) rs.length c3) := (kW.cell_ 2).trans (by simp)
    have hbX := HB4.out.trans (hb0.mono HB4.out.size)
    have pL := cell_keep hbX hcL hbL
    have pR := cell_keep hbX hcR hbR
    have zL := Nat.lt_of_lt_of_le hbL hbX.size
    have zR := Nat.lt_of_lt_of_le hbR hbX.size
    refine chn_is (stp_pure (by rfl) ?yan0) ?ran0
    case yan0 =>
      intro w
      go_simp
      first | done | with_reducible rfl
    (try simp only [Act.put, List.setIfInBounds_toArray, List.set_cons_zero, List.set_cons_succ, List.nil_append, List.cons_append, Nat.reduceAdd])
    refine chn_kn (stp_take (by rfl) ?yan1) ?ran1
    case yan1 =>
      intro w hbw hd
      have r2 := cell_keep hbw p2 zW
      clear hd
      go_simp
      first | done | with_reducible rfl
    (try simp only [Act.put, List.setIfInBounds_toArray, List.set_cons_zero, List.set_cons_succ, List.nil_append, List.cons_append, Nat.reduceAdd])
    refine chn_is (stp_pure (by rfl) ?yan2) ?ran2
    case yan2 =>
      intro w
      go_simp
      first | done | with_reducible rfl
    (try simp only [Act.put, List.setIfInBounds_toArray, List.set_cons_zero, List.set_cons_succ, List.nil_append, List.cons_append, Nat.reduceAdd])
    refine chn_kn (stp_take (by rfl) ?yan3) ?ran3
    case yan3 =>
      intro w hbw hd
      have r1 := cell_keep hbw p1 zW
      clear hd
      go_simp
      first | done | with_reducible rfl
    (try simp only [Act.put, List.setIfInBounds_toArray, List.set_cons_zero, List.set_cons_succ, List.nil_append, List.cons_append, Nat.reduceAdd])
    refine chn_is (stp_pure (by rfl) ?yan4) ?ran4
    case yan4 =>
      intro w
      go_simp
      first | done | with_reducible rfl
    (try simp only [Act.put, List.setIfInBounds_toArray, List.set_cons_zero, List.set_cons_succ, List.nil_append, List.cons_append, Nat.reduceAdd])
    refine chn_is (stp_pure (by rfl) ?yan5) ?ran5
    case yan5 =>
      intro w
      go_simp
      first | done | with_reducible rfl
    (try simp only [Act.put, List.setIfInBounds_toArray, List.set_cons_zero, List.set_cons_succ, List.nil_append, List.cons_append, Nat.reduceAdd])
    refine chn_is (stp_pure (by rfl) ?yan6) ?ran6
    case yan6 =>
      intro w
      go_simp
      first | done | with_reducible rfl
    (try simp only [Act.put, List.setIfInBounds_toArray, List.set_cons_zero, List.set_cons_succ, List.nil_append, List.cons_append, Nat.reduceAdd])
    refine chn_kn (stp_take (by rfl) ?yan7) ?ran7
    case yan7 =>
      intro w hbw hd
      have r9 := cell_keep hbw pL zL
      clear hd
      go_simp
      first | done | with_reducible rfl
    (try simp only [Act.put, List.setIfInBounds_toArray, List.set_cons_zero, List.set_cons_succ, List.nil_append, List.cons_append, Nat.reduceAdd])
    refine chn_is (stp_pure (by rfl) ?yan8) ?ran8
    case yan8 =>
      intro w
      go_simp
      first | done | with_reducible rfl
    (try simp only [Act.put, List.setIfInBounds_toArray, List.set_cons_zero, List.set_cons_succ, List.nil_append, List.cons_append, Nat.reduceAdd])
    refine chn_kn (stp_take (by rfl) ?yan9) ?ran9
    case yan9 =>
      intro w hbw hd
      have r9 := cell_keep hbw pR zR
      clear hd
      go_simp
      first | done | with_reducible rfl
    (try simp only [Act.put, List.setIfInBounds_toArray, List.set_cons_zero, List.set_cons_succ, List.nil_append, List.cons_append, Nat.reduceAdd])
    refine chn_end (fun wz lo hi hbz hd hR => ?_)
    have hbb := hb0.trans (hbz.mono hb0.size)
    have HB4' := Lib.hid (HB4.out.trans (hbb.mono HB4.out.size))
    have K1' := Lib.hid (K1.out.below_ hbb K1.out.lt)
    have K2' := Lib.hid (K2.out.below_ hbb K2.out.lt)
    have zb := hbb.size
    clear hd hR hb0 hbz hz0 zW kW p1 p2 pL pR zL zR hbX hbb
    refine late_none ?_
    obtain ⟨x9, rfl⟩ : ∃ x9 : World, x9 = wz := ⟨_, rfl⟩
    clear HB4 K1 K2 q0 q1 q2
    obtain ⟨HB4, K1, K2⟩ := And.intro HB4' (And.intro K1' K2')
    clear HB4' K1' K2'
    have q0 : x9.cell? ⟨w.heap.size, 0, none⟩ = some (.slice A1 xs.length c1) := (K1.out.cell_ 0).trans (by simp)
    have q1 : x9.cell? ⟨w.heap.size, 1, none⟩ = some (.slice (some ⟨bL, oL, none⟩) ys.length c2) := (K1.out.cell_ 1).trans (by simp)
    have q2 : x9.cell? ⟨w.heap.size, 2, none⟩ = some (.slice (some ⟨bR, oR, none⟩) rs.length c3) := (K1.out.cell_ 2).trans (by simp)
    have zq : w.heap.size < x9.heap.size := K1.out.lt
    have zx9 : w.heap.size + 2 ≤ x9.heap.size := by have := K2.out.lt; omega
    have qL := cell_keep HB4.out hcL hbL
    have zL := Nat.lt_of_lt_of_le hbL HB4.out.size
    have HBQ : Hid (Below w.heap.size w x9.drew) := HB4.out.drew
    have K2Q : Hid (Blk x9.drew (w.heap.size + 1) 25 #[.slice none 0 0, .slice none 0 0, .slice none 0 0]) := K2.out
    clear hcL hcR hbR
    go_wp2_with fail
    refine wp_region_held_drew (S := (fun W => W.cell? ⟨w.heap.size, 0, none⟩ = some (.slice A1 xs.length c1) ∧ W.cell? ⟨w.heap.size, 1, none⟩ = some (.slice (some ⟨bL, oL, none⟩) ys.length c2) ∧ W.cell? ⟨w.heap.size, 2, none⟩ = some (.slice (some ⟨bR, oR, none⟩) rs.length c3) ∧ W.cell? ⟨bL, oL + n, none⟩ = some (.int .i64 G))) (by kernel_rfl) ?_ (fun hHeld => ?_)
    · exact ⟨q0, q1, q2, qL⟩
    refine wpAnyH_take (i := 0) (oi := ?oian0) (v := ?van0) ?hian0 (by kernel_rfl) (by kernel_rfl) (by kernel_rfl) ?hQan0 ?hyan0 (by assumption) ?restan0
    case hian0 => (simp only [List.getElem?_toArray, List.getElem?_cons_succ, List.getElem?_cons_zero]; rfl)
    case hQan0 => exact fun _ _ _ h => h
    case hyan0 => (refine Or.inl ⟨by rfl, ?_⟩; intro w hSw; (try dsimp only at hSw); go_simp; first | done | with_reducible rfl)
    (try simp only [Act.put, List.setIfInBounds_toArray, List.set_cons_zero, List.set_cons_succ])
    refine wpAnyH_take (i := 2) (oi := ?oian2) (v := ?van2) ?hian2 (by kernel_rfl) (by kernel_rfl) (by kernel_rfl) ?hQan2 ?hyan2 (by assumption) ?restan2
    case hian2 => (simp only [List.getElem?_toArray, List.getElem?_cons_succ, List.getElem?_cons_zero]; rfl)
    case hQan2 => exact fun _ _ _ h => h
    case hyan2 => (refine Or.inl ⟨by rfl, ?_⟩; intro w hSw; (try dsimp only at hSw); go_simp; first | done | with_reducible rfl)
    (try simp only [Act.put, List.setIfInBounds_toArray, List.set_cons_zero, List.set_cons_succ])
    refine wpAnyH_take (i := 3) (oi := ?oian3) (v := ?van3) ?hian3 (by kernel_rfl) (by kernel_rfl) (by kernel_rfl) ?hQan3 ?hyan3 (by assumption) ?restan3
    case hian3 => (simp only [List.getElem?_toArray, List.getElem?_cons_succ, List.getElem?_cons_zero]; rfl)
    case hQan3 => exact fun _ _ _ h => h
    case hyan3 => (refine Or.inl ⟨by rfl, ?_⟩; intro w hSw; (try dsimp only at hSw); go_simp; first | done | with_reducible rfl)
    (try simp only [Act.put, List.setIfInBounds_toArray, List.set_cons_zero, List.set_cons_succ])
    refine wpAnyH_take (i := 4) (oi := ?oian4) (v := ?van4) ?hian4 (by kernel_rfl) (by kernel_rfl) (by kernel_rfl) ?hQan4 ?hyan4 (by assumption) ?restan4
    case hian4 => (simp only [List.getElem?_toArray, List.getElem?_cons_succ, List.getElem?_cons_zero]; rfl)
    case hQan4 => exact fun _ _ _ h => h
    case hyan4 => (refine Or.inl ⟨by rfl, ?_⟩; intro w hSw; (try dsimp only at hSw); go_simp; first | done | with_reducible rfl)
    (try simp only [Act.put, List.setIfInBounds_toArray, List.set_cons_zero, List.set_cons_succ])
    refine wpAnyH_take (i := 5) (oi := ?oian5) (v := ?van5) ?hian5 (by kernel_rfl) (by kernel_rfl) (by kernel_rfl) ?hQan5 ?hyan5 (by assumption) ?restan5
    case hian5 => (simp only [List.getElem?_toArray, List.getElem?_cons_succ, List.getElem?_cons_zero]; rfl)
    case hQan5 => exact fun _ _ _ h => h
    case hyan5 => (refine Or.inl ⟨by rfl, ?_⟩; intro w hSw; (try dsimp only at hSw); go_simp; first | done | with_reducible rfl)
    (try simp only [Act.put, List.setIfInBounds_toArray, List.set_cons_zero, List.set_cons_succ])
    refine wpAnyH_take (i := 6) (oi := ?oian6) (v := ?van6) ?hian6 (by kernel_rfl) (by kernel_rfl) (by kernel_rfl) ?hQan6 ?hyan6 (by assumption) ?restan6
    case hian6 => (simp only [List.getElem?_toArray, List.getElem?_cons_succ, List.getElem?_cons_zero]; rfl)
    case hQan6 => exact fun _ _ _ h => h
    case hyan6 => (refine Or.inl ⟨by rfl, ?_⟩; intro w hSw; (try dsimp only at hSw); go_simp; first | done | with_reducible rfl)
    (try simp only [Act.put, List.setIfInBounds_toArray, List.set_cons_zero, List.set_cons_succ])
    refine wpAnyH_take (i := 7) (oi := ?oian7) (v := ?van7) ?hian7 (by kernel_rfl) (by kernel_rfl) (by kernel_rfl) ?hQan7 ?hyan7 (by assumption) ?restan7
    case hian7 => (simp only [List.getElem?_toArray, List.getElem?_cons_succ, List.getElem?_cons_zero]; rfl)
    case hQan7 => exact fun _ _ _ h => h
    case hyan7 => (refine Or.inl ⟨by rfl, ?_⟩; intro w hSw; (try dsimp only at hSw); go_simp; first | done | with_reducible rfl)
    (try simp only [Act.put, List.setIfInBounds_toArray, List.set_cons_zero, List.set_cons_succ])
    refine wpAnyH_ready (rs := [1]) (by kernel_rfl) (by simp) ?_
    refine AllReadyH.cons (o := ?oian1) ?hian1 (fun K hK => ?stepan1) AllReadyH.nil
    case hian1 => (simp only [List.getElem?_toArray, List.getElem?_cons_succ, List.getElem?_cons_zero]; rfl)
    go_simp
    refine (Sown_any A1 (some ⟨bL, oL, none⟩) (some ⟨bR, oR, none⟩) c1 c2 c3 xs ys rs _ (HM.out.ext HBQ.out).a (HM.out.ext HBQ.out).i (HM.out.ext HBQ.out).r (by omega) (by omega) (by omega)).mono ?_
    rintro e x5 ⟨B1, d1, B2, d2, B3, d3, rfl, ho5, hb5⟩
    have z45 : x9.heap.size ≤ x5.heap.size := hb5.size
    have K25 := Lib.hid (K2Q.out.below_ hb5 K2Q.out.lt)
    have HM5 := Lib.hid (ho5.memV HC.out)
    have HN7 : Hid (NewL (w.heap.size + 2) B1 B2 B3) := ho5.new_.mono zx9
    have HB5 := Lib.hid (HBQ.out.trans (hb5.mono HBQ.out.size))
    have kl5 := K25.out.lt
    have y0 : x5.cell? ⟨w.heap.size + 1, 0, none⟩ = some (.slice none 0 0) := (K25.out.cell_ 0).trans (by simp)
    have y1 : x5.cell? ⟨w.heap.size + 1, 1, none⟩ = some (.slice none 0 0) := (K25.out.cell_ 1).trans (by simp)
    have y2 : x5.cell? ⟨w.heap.size + 1, 2, none⟩ = some (.slice none 0 0) := (K25.out.cell_ 2).trans (by simp)
    have g0 := K25.out.frozen_ 0
    have g1 := K25.out.frozen_ 1
    have g2 := K25.out.frozen_ 2
    go_wp2_with fail
    refine hK.out _ _ ?_ (fun hHeld => ?_)
    · first | exact ⟨cell_keep hb5 q0 zq, cell_keep hb5 q1 zq, cell_keep hb5 q2 zq, cell_keep hb5 qL zL⟩ | exact ⟨far3_ hHeld.1 (by omega), far3_ hHeld.2.1 (by omega), far3_ hHeld.2.2.1 (by omega), far3_ hHeld.2.2.2 (by omega)⟩
    clear hK K
    (try simp only [Act.put, List.setIfInBounds_toArray, List.set_cons_zero, List.set_cons_succ])
    refine wpAnyH_ready (rs := [8]) (by kernel_rfl) (by simp) ?_
    refine AllReadyH.cons (o := ?oian8) ?hian8 (fun K hK => ?stepan8) AllReadyH.nil
    case hian8 => (simp only [List.getElem?_toArray, List.getElem?_cons_succ, List.getElem?_cons_zero]; rfl)
    go_simp
    refine hK.out _ _ ?_ (fun hHeld => ?_)
    · first | exact ⟨cell_keep hb5 q0 zq, cell_keep hb5 q1 zq, cell_keep hb5 q2 zq, cell_keep hb5 qL zL⟩ | exact ⟨far3_ hHeld.1 (by omega), far3_ hHeld.2.1 (by omega), far3_ hHeld.2.2.1 (by omega), far3_ hHeld.2.2.2 (by omega)⟩
    clear hK K
    (try simp only [Act.put, List.setIfInBounds_toArray, List.set_cons_zero, List.set_cons_succ])
    refine wpAnyH_take (i := 9) (oi := ?oian9) (v := ?van9) ?hian9 (by kernel_rfl) (by kernel_rfl) (by kernel_rfl) ?hQan9 ?hyan9 (by assumption) ?restan9
    case hian9 => (simp only [List.getElem?_toArray, List.getElem?_cons_succ, List.getElem?_cons_zero]; rfl)
    case hQan9 => exact fun _ _ _ h => h
    case hyan9 => (refine Or.inl ⟨by rfl, ?_⟩; intro w hSw; (try dsimp only at hSw); go_simp; first | done | with_reducible rfl)
    (try simp only [Act.put, List.setIfInBounds_toArray, List.set_cons_zero, List.set_cons_succ])
    refine wpAnyH_take (i := 10) (oi := ?oian10) (v := ?van10) ?hian10 (by kernel_rfl) (by kernel_rfl) (by kernel_rfl) ?hQan10 ?hyan10 (by assumption) ?restan10
    case hian10 => (simp only [List.getElem?_toArray, List.getElem?_cons_succ, List.getElem?_cons_zero]; rfl)
    case hQan10 => exact fun _ _ _ h => h
    case hyan10 => (refine Or.inl ⟨by rfl, ?_⟩; intro w hSw; (try dsimp only at hSw); go_simp; first | done | with_reducible rfl)
    (try simp only [Act.put, List.setIfInBounds_toArray, List.set_cons_zero, List.set_cons_succ])
    refine wpAnyH_take (i := 11) (oi := ?oian11) (v := ?van11) ?hian11 (by kernel_rfl) (by kernel_rfl) (by kernel_rfl) ?hQan11 ?hyan11 (by assumption) ?restan11
    case hian11 => (simp only [List.getElem?_toArray, List.getElem?_cons_succ, List.getElem?_cons_zero]; rfl)
    case hQan11 => exact fun _ _ _ h => h
    case hyan11 => (refine Or.inl ⟨by rfl, ?_⟩; intro w hSw; (try dsimp only at hSw); go_simp; first | done | with_reducible rfl)
    (try simp only [Act.put, List.setIfInBounds_toArray, List.set_cons_zero, List.set_cons_succ])
    refine wpAnyH_done (by kernel_rfl) ?_ _
    go_wp2_with fail
    clear y0 y1 y2 g0 g1 g2
    obtain ⟨U, hU⟩ : ∃ U, ((x5.setCell ⟨w.heap.size + 1, 0, none⟩ (.slice B1 xs.length d1)).setCell ⟨w.heap.size + 1, 1, none⟩ (.slice B2 ys.length d2)).setCell ⟨w.heap.size + 1, 2, none⟩ (.slice B3 rs.length d3) = U := ⟨_, rfl⟩
    have KU : Blk U (w.heap.size + 1) 25 #[.slice B1 xs.length d1, .slice B2 ys.length d2, .slice B3 rs.length d3] := by
      rw [← hU]
      simpa using (((K25.out.set_ 0 (.slice B1 xs.length d1)).set_ 1 (.slice B2 ys.length d2)).set_ 2 (.slice B3 rs.length d3))
    have MU : InMem U B1 B2 B3 xs ys rs := by
      rw [← hU]
      exact (((HM5.out.far_ HN7.out (show w.heap.size + 1 < w.heap.size + 2 by omega) 0 (.slice B1 xs.length d1)).far_ HN7.out (show w.heap.size + 1 < w.heap.size + 2 by omega) 1 (.slice B2 ys.length d2)).far_ HN7.out (show w.heap.size + 1 < w.heap.size + 2 by omega) 2 (.slice B3 rs.length d3))
    have BU : Below w.heap.size w U := by
      rw [← hU]
      exact (((HB5.out.setCell (p := ⟨w.heap.size + 1, 0, none⟩) (by simp) _).setCell (p := ⟨w.heap.size + 1, 1, none⟩) (by simp) _).setCell (p := ⟨w.heap.size + 1, 2, none⟩) (by simp) _)
    (try rw [hU])
    have u0 : U.cell? ⟨w.heap.size + 1, 0, none⟩ = some (.slice B1 xs.length d1) := (KU.cell_ 0).trans (by simp)
    have u1 : U.cell? ⟨w.heap.size + 1, 1, none⟩ = some (.slice B2 ys.length d2) := (KU.cell_ 1).trans (by simp)
    have u2 : U.cell? ⟨w.heap.size + 1, 2, none⟩ = some (.slice B3 rs.length d3) := (KU.cell_ 2).trans (by simp)
    clear hU KU
    refine bodyPost_ret (v := .tuple #[.agg #[.slice B1 xs.length d1, .slice B2 ys.length d2, .slice B3 rs.length d3], .int .i64 3, .int .i64 (G : Int), .int .i64 0]) (by simp [results, Try.results14, go_sem, u0, u1, u2]) rfl ?_
    exact ⟨_, _, _, _, _, _, rfl, MU, HN7.out.mono (by omega), BU⟩
  · have j0 : ¬ (0 : Int) < xs.length := by omega
    clear h0
    have HM := Lib.hid h; have HZ := Lib.hid hz
    clear h hz
    obtain ⟨X, hX⟩ : ∃ X, (w.alloc (.cells #[.slice A1 xs.length c1, .slice (some ⟨bL, oL, none⟩) ys.length c2, .slice (some ⟨bR, oR, none⟩) rs.length c3] 25)).alloc (.cells #[.slice none 0 0, .slice none 0 0, .slice none 0 0] 25) = X := ⟨_, rfl⟩
    have k1 : Blk X w.heap.size 25 #[.slice A1 xs.length c1, .slice (some ⟨bL, oL, none⟩) ys.length c2, .slice (some ⟨bR, oR, none⟩) rs.length c3] := by rw [← hX]; exact (Blk.new_ rfl rfl).alloc_ _
    have k2 : Blk X (w.heap.size + 1) 25 #[.slice none 0 0, .slice none 0 0, .slice none 0 0] := by rw [← hX]; exact Blk.new_ (by simp) rfl
    have HBX : Hid (Below w.heap.size w X) := by show Below _ _ _; rw [← hX]; exact ((Below.refl _ _).alloc (Nat.le_refl _) _).alloc (by simp) _
    have q0 : X.cell? ⟨w.heap.size, 0, none⟩ = some (.slice A1 xs.length c1) := (k1.cell_ 0).trans (by simp)
    have q1 : X.cell? ⟨w.heap.size, 1, none⟩ = some (.slice (some ⟨bL, oL, none⟩) ys.length c2) := (k1.cell_ 1).trans (by simp)
    have q2 : X.cell? ⟨w.heap.size, 2, none⟩ = some (.slice (some ⟨bR, oR, none⟩) rs.length c3) := (k1.cell_ 2).trans (by simp)
    go_enter Try.func14, Try.ntmps14
    go_wp2_with fail
    (try rw [hX])
    refine (asked_any A1 (some ⟨bL, oL, none⟩) (some ⟨bR, oR, none⟩) c1 c2 c3 xs ys rs T _ (HM.out.ext HBX.out)).mono ?_
    rw [HZ.out]
    rintro e x4 ⟨rfl, hx4⟩
    have HB4 := Lib.hid (HBX.out.trans (hx4.mono HBX.out.size))
    have K1 := Lib.hid (k1.below_ hx4 k1.lt)
    have K2 := Lib.hid (k2.below_ hx4 k2.lt)
    have zx4 := k2.lt
    have zx5 := hx4.size
    clear hx4 k1 k2 HBX q0 q1 q2 hX
    have q0 : x4.cell? ⟨w.heap.size, 0, none⟩ = some (.slice A1 xs.length c1) := (K1.out.cell_ 0).trans (by simp)
    have q1 : x4.cell? ⟨w.heap.size, 1, none⟩ = some (.slice (some ⟨bL, oL, none⟩) ys.length c2) := (K1.out.cell_ 1).trans (by simp)
    have q2 : x4.cell? ⟨w.heap.size, 2, none⟩ = some (.slice (some ⟨bR, oR, none⟩) rs.length c3) := (K1.out.cell_ 2).trans (by simp)
    go_wp2_with fail
    refine wp_region_chain2 [0, 1, 0, 1, 0, 0, 0, 1, 0, 1] [[], [], [], [], [], [], [], [], [], []] [.is ?fbn0, .kn ?fbn1, .is ?fbn2, .kn ?fbn3, .is ?fbn4, .is ?fbn5, .is ?fbn6, .kn ?fbn7, .is ?fbn8, .kn ?fbn9] (by rfl) (by rfl) (by kernel_rfl) (by kernel_rfl) (by kernel_rfl) (by kernel_rfl) (by kernel_rfl) (by kernel_rfl) (lts_is (lts_kn (lts_is (lts_kn (lts_is (lts_is (lts_is (lts_kn (lts_is (lts_kn lts_nil)))))))))) (fun W0 hb0 hz0 => ?_)
    rotate_left 10
    rw [show lateIdx [0, 1, 0, 1, 0, 0, 0, 1, 0, 1] = [] from by rfl]
    have kW := K1.out.below_ hb0 K1.out.lt
    have zW := kW.lt
    have p1 : W0.cell? ⟨w.heap.size, 1, none⟩ = some (.slice (some ⟨bL, oL, none⟩) ys.length c2) := (kW.cell_ 1).trans (by simp)
    have p2 : W0.cell? ⟨w.heap.size, 2, none⟩ = some (.slice (some ⟨bR, oR, none⟩) rs.length c3) := (kW.cell_ 2).trans (by simp)
    have hbX := HB4.out.trans (hb0.mono HB4.out.size)
    have pL := cell_keep hbX hcL hbL
    have pR := cell_keep hbX hcR hbR
    have zL := Nat.lt_of_lt_of_le hbL hbX.size
    have zR := Nat.lt_of_lt_of_le hbR hbX.size
    refine chn_is (stp_pure (by rfl) ?ybn0) ?rbn0
    case ybn0 =>
      intro w
      go_simp
      first | done | with_reducible rfl
    (try simp only [Act.put, List.setIfInBounds_toArray, List.set_cons_zero, List.set_cons_succ, List.nil_append, List.cons_append, Nat.reduceAdd])
    refine chn_kn (stp_take (by rfl) ?ybn1) ?rbn1
    case ybn1 =>
      intro w hbw hd
      have r2 := cell_keep hbw p2 zW
      clear hd
      go_simp
      first | done | with_reducible rfl
    (try simp only [Act.put, List.setIfInBounds_toArray, List.set_cons_zero, List.set_cons_succ, List.nil_append, List.cons_append, Nat.reduceAdd])
    refine chn_is (stp_pure (by rfl) ?ybn2) ?rbn2
    case ybn2 =>
      intro w
      go_simp
      first | done | with_reducible rfl
    (try simp only [Act.put, List.setIfInBounds_toArray, List.set_cons_zero, List.set_cons_succ, List.nil_append, List.cons_append, Nat.reduceAdd])
    refine chn_kn (stp_take (by rfl) ?ybn3) ?rbn3
    case ybn3 =>
      intro w hbw hd
      have r1 := cell_keep hbw p1 zW
      clear hd
      go_simp
      first | done | with_reducible rfl
    (try simp only [Act.put, List.setIfInBounds_toArray, List.set_cons_zero, List.set_cons_succ, List.nil_append, List.cons_append, Nat.reduceAdd])
    refine chn_is (stp_pure (by rfl) ?ybn4) ?rbn4
    case ybn4 =>
      intro w
      go_simp
      first | done | with_reducible rfl
    (try simp only [Act.put, List.setIfInBounds_toArray, List.set_cons_zero, List.set_cons_succ, List.nil_append, List.cons_append, Nat.reduceAdd])
    refine chn_is (stp_pure (by rfl) ?ybn5) ?rbn5
    case ybn5 =>
      intro w
      go_simp
      first | done | with_reducible rfl
    (try simp only [Act.put, List.setIfInBounds_toArray, List.set_cons_zero, List.set_cons_succ, List.nil_append, List.cons_append, Nat.reduceAdd])
    refine chn_is (stp_pure (by rfl) ?ybn6) ?rbn6
    case ybn6 =>
      intro w
      go_simp
      first | done | with_reducible rfl
    (try simp only [Act.put, List.setIfInBounds_toArray, List.set_cons_zero, List.set_cons_succ, List.nil_append, List.cons_append, Nat.reduceAdd])
    refine chn_kn (stp_take (by rfl) ?ybn7) ?rbn7
    case ybn7 =>
      intro w hbw hd
      have r9 := cell_keep hbw pL zL
      clear hd
      go_simp
      first | done | with_reducible rfl
    (try simp only [Act.put, List.setIfInBounds_toArray, List.set_cons_zero, List.set_cons_succ, List.nil_append, List.cons_append, Nat.reduceAdd])
    refine chn_is (stp_pure (by rfl) ?ybn8) ?rbn8
    case ybn8 =>
      intro w
      go_simp
      first | done | with_reducible rfl
    (try simp only [Act.put, List.setIfInBounds_toArray, List.set_cons_zero, List.set_cons_succ, List.nil_append, List.cons_append, Nat.reduceAdd])
    refine chn_kn (stp_take (by rfl) ?ybn9) ?rbn9
    case ybn9 =>
      intro w hbw hd
      have r9 := cell_keep hbw pR zR
      clear hd
      go_simp
      first | done | with_reducible rfl
    (try simp only [Act.put, List.setIfInBounds_toArray, List.set_cons_zero, List.set_cons_succ, List.nil_append, List.cons_append, Nat.reduceAdd])
    refine chn_end (fun wz lo hi hbz hd hR => ?_)
    have hbb := hb0.trans (hbz.mono hb0.size)
    have HB4' := Lib.hid (HB4.out.trans (hbb.mono HB4.out.size))
    have K1' := Lib.hid (K1.out.below_ hbb K1.out.lt)
    have K2' := Lib.hid (K2.out.below_ hbb K2.out.lt)
    have zb := hbb.size
    clear hd hR hb0 hbz hz0 zW kW p1 p2 pL pR zL zR hbX hbb
    refine late_none ?_
    obtain ⟨x9, rfl⟩ : ∃ x9 : World, x9 = wz := ⟨_, rfl⟩
    clear HB4 K1 K2 q0 q1 q2
    obtain ⟨HB4, K1, K2⟩ := And.intro HB4' (And.intro K1' K2')
    clear HB4' K1' K2'
    have q0 : x9.cell? ⟨w.heap.size, 0, none⟩ = some (.slice A1 xs.length c1) := (K1.out.cell_ 0).trans (by simp)
    have q1 : x9.cell? ⟨w.heap.size, 1, none⟩ = some (.slice (some ⟨bL, oL, none⟩) ys.length c2) := (K1.out.cell_ 1).trans (by simp)
    have q2 : x9.cell? ⟨w.heap.size, 2, none⟩ = some (.slice (some ⟨bR, oR, none⟩) rs.length c3) := (K1.out.cell_ 2).trans (by simp)
    have zq : w.heap.size < x9.heap.size := K1.out.lt
    have zx9 : w.heap.size + 2 ≤ x9.heap.size := by have := K2.out.lt; omega
    have qL := cell_keep HB4.out hcL hbL
    have zL := Nat.lt_of_lt_of_le hbL HB4.out.size
    have HBQ : Hid (Below w.heap.size w x9.drew) := HB4.out.drew
    have K2Q : Hid (Blk x9.drew (w.heap.size + 1) 25 #[.slice none 0 0, .slice none 0 0, .slice none 0 0]) := K2.out
    clear hcL hcR hbR
    go_wp2_with fail
    refine wp_region_held_drew (S := (fun W => W.cell? ⟨w.heap.size, 0, none⟩ = some (.slice A1 xs.length c1) ∧ W.cell? ⟨w.heap.size, 1, none⟩ = some (.slice (some ⟨bL, oL, none⟩) ys.length c2) ∧ W.cell? ⟨w.heap.size, 2, none⟩ = some (.slice (some ⟨bR, oR, none⟩) rs.length c3) ∧ W.cell? ⟨bL, oL + n, none⟩ = some (.int .i64 G))) (by kernel_rfl) ?_ (fun hHeld => ?_)
    · exact ⟨q0, q1, q2, qL⟩
    refine wpAnyH_take (i := 0) (oi := ?oibn0) (v := ?vbn0) ?hibn0 (by kernel_rfl) (by kernel_rfl) (by kernel_rfl) ?hQbn0 ?hybn0 (by assumption) ?restbn0
    case hibn0 => (simp only [List.getElem?_toArray, List.getElem?_cons_succ, List.getElem?_cons_zero]; rfl)
    case hQbn0 => exact fun _ _ _ h => h
    case hybn0 => (refine Or.inl ⟨by rfl, ?_⟩; intro w hSw; (try dsimp only at hSw); go_simp; first | done | with_reducible rfl)
    (try simp only [Act.put, List.setIfInBounds_toArray, List.set_cons_zero, List.set_cons_succ])
    refine wpAnyH_take (i := 2) (oi := ?oibn2) (v := ?vbn2) ?hibn2 (by kernel_rfl) (by kernel_rfl) (by kernel_rfl) ?hQbn2 ?hybn2 (by assumption) ?restbn2
    case hibn2 => (simp only [List.getElem?_toArray, List.getElem?_cons_succ, List.getElem?_cons_zero]; rfl)
    case hQbn2 => exact fun _ _ _ h => h
    case hybn2 => (refine Or.inl ⟨by rfl, ?_⟩; intro w hSw; (try dsimp only at hSw); go_simp; first | done | with_reducible rfl)
    (try simp only [Act.put, List.setIfInBounds_toArray, List.set_cons_zero, List.set_cons_succ])
    refine wpAnyH_take (i := 3) (oi := ?oibn3) (v := ?vbn3) ?hibn3 (by kernel_rfl) (by kernel_rfl) (by kernel_rfl) ?hQbn3 ?hybn3 (by assumption) ?restbn3
    case hibn3 => (simp only [List.getElem?_toArray, List.getElem?_cons_succ, List.getElem?_cons_zero]; rfl)
    case hQbn3 => exact fun _ _ _ h => h
    case hybn3 => (refine Or.inl ⟨by rfl, ?_⟩; intro w hSw; (try dsimp only at hSw); go_simp; first | done | with_reducible rfl)
    (try simp only [Act.put, List.setIfInBounds_toArray, List.set_cons_zero, List.set_cons_succ])
    refine wpAnyH_take (i := 4) (oi := ?oibn4) (v := ?vbn4) ?hibn4 (by kernel_rfl) (by kernel_rfl) (by kernel_rfl) ?hQbn4 ?hybn4 (by assumption) ?restbn4
    case hibn4 => (simp only [List.getElem?_toArray, List.getElem?_cons_succ, List.getElem?_cons_zero]; rfl)
    case hQbn4 => exact fun _ _ _ h => h
    case hybn4 => (refine Or.inl ⟨by rfl, ?_⟩; intro w hSw; (try dsimp only at hSw); go_simp; first | done | with_reducible rfl)
    (try simp only [Act.put, List.setIfInBounds_toArray, List.set_cons_zero, List.set_cons_succ])
    refine wpAnyH_take (i := 5) (oi := ?oibn5) (v := ?vbn5) ?hibn5 (by kernel_rfl) (by kernel_rfl) (by kernel_rfl) ?hQbn5 ?hybn5 (by assumption) ?restbn5
    case hibn5 => (simp only [List.getElem?_toArray, List.getElem?_cons_succ, List.getElem?_cons_zero]; rfl)
    case hQbn5 => exact fun _ _ _ h => h
    case hybn5 => (refine Or.inl ⟨by rfl, ?_⟩; intro w hSw; (try dsimp only at hSw); go_simp; first | done | with_reducible rfl)
    (try simp only [Act.put, List.setIfInBounds_toArray, List.set_cons_zero, List.set_cons_succ])
    refine wpAnyH_take (i := 6) (oi := ?oibn6) (v := ?vbn6) ?hibn6 (by kernel_rfl) (by kernel_rfl) (by kernel_rfl) ?hQbn6 ?hybn6 (by assumption) ?restbn6
    case hibn6 => (simp only [List.getElem?_toArray, List.getElem?_cons_succ, List.getElem?_cons_zero]; rfl)
    case hQbn6 => exact fun _ _ _ h => h
    case hybn6 => (refine Or.inl ⟨by rfl, ?_⟩; intro w hSw; (try dsimp only at hSw); go_simp; first | done | with_reducible rfl)
    (try simp only [Act.put, List.setIfInBounds_toArray, List.set_cons_zero, List.set_cons_succ])
    refine wpAnyH_take (i := 7) (oi := ?oibn7) (v := ?vbn7) ?hibn7 (by kernel_rfl) (by kernel_rfl) (by kernel_rfl) ?hQbn7 ?hybn7 (by assumption) ?restbn7
    case hibn7 => (simp only [List.getElem?_toArray, List.getElem?_cons_succ, List.getElem?_cons_zero]; rfl)
    case hQbn7 => exact fun _ _ _ h => h
    case hybn7 => (refine Or.inl ⟨by rfl, ?_⟩; intro w hSw; (try dsimp only at hSw); go_simp; first | done | with_reducible rfl)
    (try simp only [Act.put, List.setIfInBounds_toArray, List.set_cons_zero, List.set_cons_succ])
    refine wpAnyH_ready (rs := [1]) (by kernel_rfl) (by simp) ?_
    refine AllReadyH.cons (o := ?oibn1) ?hibn1 (fun K hK => ?stepbn1) AllReadyH.nil
    case hibn1 => (simp only [List.getElem?_toArray, List.getElem?_cons_succ, List.getElem?_cons_zero]; rfl)
    go_simp
    refine (Sown_any A1 (some ⟨bL, oL, none⟩) (some ⟨bR, oR, none⟩) c1 c2 c3 xs ys rs _ (HM.out.ext HBQ.out).a (HM.out.ext HBQ.out).i (HM.out.ext HBQ.out).r (by omega) (by omega) (by omega)).mono ?_
    rintro e x5 ⟨B1, d1, B2, d2, B3, d3, rfl, ho5, hb5⟩
    have z45 : x9.heap.size ≤ x5.heap.size := hb5.size
    have K25 := Lib.hid (K2Q.out.below_ hb5 K2Q.out.lt)
    have HM5 := Lib.hid (ho5.memV HC.out)
    have HN7 : Hid (NewL (w.heap.size + 2) B1 B2 B3) := ho5.new_.mono zx9
    have HB5 := Lib.hid (HBQ.out.trans (hb5.mono HBQ.out.size))
    have kl5 := K25.out.lt
    have y0 : x5.cell? ⟨w.heap.size + 1, 0, none⟩ = some (.slice none 0 0) := (K25.out.cell_ 0).trans (by simp)
    have y1 : x5.cell? ⟨w.heap.size + 1, 1, none⟩ = some (.slice none 0 0) := (K25.out.cell_ 1).trans (by simp)
    have y2 : x5.cell? ⟨w.heap.size + 1, 2, none⟩ = some (.slice none 0 0) := (K25.out.cell_ 2).trans (by simp)
    have g0 := K25.out.frozen_ 0
    have g1 := K25.out.frozen_ 1
    have g2 := K25.out.frozen_ 2
    go_wp2_with fail
    refine hK.out _ _ ?_ (fun hHeld => ?_)
    · first | exact ⟨cell_keep hb5 q0 zq, cell_keep hb5 q1 zq, cell_keep hb5 q2 zq, cell_keep hb5 qL zL⟩ | exact ⟨far3_ hHeld.1 (by omega), far3_ hHeld.2.1 (by omega), far3_ hHeld.2.2.1 (by omega), far3_ hHeld.2.2.2 (by omega)⟩
    clear hK K
    (try simp only [Act.put, List.setIfInBounds_toArray, List.set_cons_zero, List.set_cons_succ])
    refine wpAnyH_ready (rs := [8]) (by kernel_rfl) (by simp) ?_
    refine AllReadyH.cons (o := ?oibn8) ?hibn8 (fun K hK => ?stepbn8) AllReadyH.nil
    case hibn8 => (simp only [List.getElem?_toArray, List.getElem?_cons_succ, List.getElem?_cons_zero]; rfl)
    go_simp
    refine hK.out _ _ ?_ (fun hHeld => ?_)
    · first | exact ⟨cell_keep hb5 q0 zq, cell_keep hb5 q1 zq, cell_keep hb5 q2 zq, cell_keep hb5 qL zL⟩ | exact ⟨far3_ hHeld.1 (by omega), far3_ hHeld.2.1 (by omega), far3_ hHeld.2.2.1 (by omega), far3_ hHeld.2.2.2 (by omega)⟩
    clear hK K
    (try simp only [Act.put, List.setIfInBounds_toArray, List.set_cons_zero, List.set_cons_succ])
    refine wpAnyH_take (i := 9) (oi := ?oibn9) (v := ?vbn9) ?hibn9 (by kernel_rfl) (by kernel_rfl) (by kernel_rfl) ?hQbn9 ?hybn9 (by assumption) ?restbn9
    case hibn9 => (simp only [List.getElem?_toArray, List.getElem?_cons_succ, List.getElem?_cons_zero]; rfl)
    case hQbn9 => exact fun _ _ _ h => h
    case hybn9 => (refine Or.inl ⟨by rfl, ?_⟩; intro w hSw; (try dsimp only at hSw); go_simp; first | done | with_reducible rfl)
    (try simp only [Act.put, List.setIfInBounds_toArray, List.set_cons_zero, List.set_cons_succ])
    refine wpAnyH_take (i := 10) (oi := ?oibn10) (v := ?vbn10) ?hibn10 (by kernel_rfl) (by kernel_rfl) (by kernel_rfl) ?hQbn10 ?hybn10 (by assumption) ?restbn10
    case hibn10 => (simp only [List.getElem?_toArray, List.getElem?_cons_succ, List.getElem?_cons_zero]; rfl)
    case hQbn10 => exact fun _ _ _ h => h
    case hybn10 => (refine Or.inl ⟨by rfl, ?_⟩; intro w hSw; (try dsimp only at hSw); go_simp; first | done | with_reducible rfl)
    (try simp only [Act.put, List.setIfInBounds_toArray, List.set_cons_zero, List.set_cons_succ])
    refine wpAnyH_take (i := 11) (oi := ?oibn11) (v := ?vbn11) ?hibn11 (by kernel_rfl) (by kernel_rfl) (by kernel_rfl) ?hQbn11 ?hybn11 (by assumption) ?restbn11
    case hibn11 => (simp only [List.getElem?_toArray, List.getElem?_cons_succ, List.getElem?_cons_zero]; rfl)
    case hQbn11 => exact fun _ _ _ h => h
    case hybn11 => (refine Or.inl ⟨by rfl, ?_⟩; intro w hSw; (try dsimp only at hSw); go_simp; first | done | with_reducible rfl)
    (try simp only [Act.put, List.setIfInBounds_toArray, List.set_cons_zero, List.set_cons_succ])
    refine wpAnyH_done (by kernel_rfl) ?_ _
    go_wp2_with fail
    clear y0 y1 y2 g0 g1 g2
    obtain ⟨U, hU⟩ : ∃ U, ((x5.setCell ⟨w.heap.size + 1, 0, none⟩ (.slice B1 xs.length d1)).setCell ⟨w.heap.size + 1, 1, none⟩ (.slice B2 ys.length d2)).setCell ⟨w.heap.size + 1, 2, none⟩ (.slice B3 rs.length d3) = U := ⟨_, rfl⟩
    have KU : Blk U (w.heap.size + 1) 25 #[.slice B1 xs.length d1, .slice B2 ys.length d2, .slice B3 rs.length d3] := by
      rw [← hU]
      simpa using (((K25.out.set_ 0 (.slice B1 xs.length d1)).set_ 1 (.slice B2 ys.length d2)).set_ 2 (.slice B3 rs.length d3))
    have MU : InMem U B1 B2 B3 xs ys rs := by
      rw [← hU]
      exact (((HM5.out.far_ HN7.out (show w.heap.size + 1 < w.heap.size + 2 by omega) 0 (.slice B1 xs.length d1)).far_ HN7.out (show w.heap.size + 1 < w.heap.size + 2 by omega) 1 (.slice B2 ys.length d2)).far_ HN7.out (show w.heap.size + 1 < w.heap.size + 2 by omega) 2 (.slice B3 rs.length d3))
    have BU : Below w.heap.size w U := by
      rw [← hU]
      exact (((HB5.out.setCell (p := ⟨w.heap.size + 1, 0, none⟩) (by simp) _).setCell (p := ⟨w.heap.size + 1, 1, none⟩) (by simp) _).setCell (p := ⟨w.heap.size + 1, 2, none⟩) (by simp) _)
    (try rw [hU])
    have u0 : U.cell? ⟨w.heap.size + 1, 0, none⟩ = some (.slice B1 xs.length d1) := (KU.cell_ 0).trans (by simp)
    have u1 : U.cell? ⟨w.heap.size + 1, 1, none⟩ = some (.slice B2 ys.length d2) := (KU.cell_ 1).trans (by simp)
    have u2 : U.cell? ⟨w.heap.size + 1, 2, none⟩ = some (.slice B3 rs.length d3) := (KU.cell_ 2).trans (by simp)
    clear hU KU
    refine bodyPost_ret (v := .tuple #[.agg #[.slice B1 xs.length d1, .slice B2 ys.length d2, .slice B3 rs.length d3], .int .i64 3, .int .i64 (G : Int), .int .i64 0]) (by simp [results, Try.results14, go_sem, u0, u1, u2]) rfl ?_
    exact ⟨_, _, _, _, _, _, rfl, MU, HN7.out.mono (by omega), BU⟩

theorem RStep_any (A1 A2 A3 : Option Addr) (c1 c2 c3 : Nat) (xs ys : List Int) (rs : List Bool) (T : Int) (w : World) (h : InMem w A1 A2 A3 xs ys rs) :
    Calls Try.prog 14 #[.agg #[.slice A1 xs.length c1, .slice A2 ys.length c2, .slice A3 rs.length c3], .int .i64 T] w (SQ (fullS T xs ys rs) w) := by
  by_cases hz : sndS xs ys rs (tgtB T) = 0
  · by_cases h0 : 0 < xs.length ∧ (ys.length : Int) < T
    · exact RStep_dem A1 A2 A3 c1 c2 c3 xs ys rs T w h hz h0
    · by_cases h1 : ys.length = 0
      · exact RStep_non A1 A2 A3 c1 c2 c3 xs ys rs T w h hz h0 h1
      · by_cases h2 : lastB ys rs = true
        · exact RStep_pro A1 A2 A3 c1 c2 c3 xs ys rs T w h hz h0 (by omega) h2
        · exact RStep_fnd A1 A2 A3 c1 c2 c3 xs ys rs T w h hz h0 (by omega) (by simpa using h2)
  · exact RStep_bad A1 A2 A3 c1 c2 c3 xs ys rs T w h rfl hz
end Go.Proofs.Ytiobbdfkimpfbaa
namespace Go.Proofs.Ytiobbdfkimpfbaa
set_option linter.unusedSimpArgs false
set_option linter.unusedVariables false
open Go.RowKit Go.Maps

/-- A direct step. -/
def dirS (xs ys : List Int) (rs : List Bool) : LR := if (lastV xs ys rs).2 ≠ 0 then .bad (lastV xs ys rs).2 else ⟨wo (lastV xs ys rs).1 xs, wo (lastV xs ys rs).1 ys, rs.set (lastV xs ys rs).1.toNat false, 0⟩
def dirF (xs ys : List Int) (rs : List Bool) : Int := if (lastV xs ys rs).2 ≠ 0 then 0 else (lastV xs ys rs).1
theorem last_mem {xs ys : List Int} {rs : List Bool} {f : Int} (h : lastV xs ys rs = (f, 0)) : lruChk xs ys rs = 0 ∧ f ∈ xs ++ ys := by
  unfold lastV at h
  by_cases h0 : lruChk xs ys rs = 0
  · rw [if_neg (by simpa using h0)] at h
    refine ⟨h0, ?_⟩
    cases hl : ys.reverse ++ xs.reverse with
    | nil => rw [hl] at h; simp at h
    | cons a t =>
      rw [hl] at h
      obtain rfl : a = f := (Prod.mk.inj h).1
      have : a ∈ ys.reverse ++ xs.reverse := by rw [hl]; simp
      simpa [or_comm] using this
  · rw [if_pos h0] at h; exact absurd (Prod.mk.inj h).2 h0
theorem last_rem {xs ys : List Int} {rs : List Bool} {f : Int} (h : lastV xs ys rs = (f, 0)) : remS xs ys rs f = ⟨wo f xs, wo f ys, rs.set f.toNat false, 0⟩ := by
  obtain ⟨hc, hm⟩ := last_mem h
  have hr := (valid_of_chk hc).range f hm
  unfold remS
  rw [show lruChd xs ys rs f = 0 by unfold lruChd; rw [if_neg (by simpa using hc), if_pos hr], if_neg (by simp), if_neg]
  unfold fWhere
  rcases List.mem_append.1 hm with hx | hy
  · rw [if_pos hx]; decide
  · split
    · decide
    · first | decide | (rw [if_pos hy]; decide)

set_option maxRecDepth 100000 in
set_option maxHeartbeats 4000000 in
theorem Direct_bad (A1 A2 A3 : Option Addr) (c1 c2 c3 : Nat) (xs ys : List Int) (rs : List Bool) (w : World) (h : InMem w A1 A2 A3 xs ys rs) {f0 z : Int} (hl : lastV xs ys rs = (f0, z)) (h0 : z ≠ 0) :
    Calls Try.prog 16 #[.agg #[.slice A1 xs.length c1, .slice A2 ys.length c2, .slice A3 rs.length c3]] w (LPost3 (dirS xs ys rs) (dirF xs ys rs) w) := by
  have HE : Hid (dirS xs ys rs = .bad z ∧ dirF xs ys rs = 0) := ⟨by unfold dirS; rw [hl, if_pos h0], by unfold dirF; rw [hl, if_pos h0]⟩
  rw [HE.out.1, HE.out.2]
  have HM := Lib.hid h; have HL := Lib.hid hl
  have nz : (z != 0) = true := by simpa using h0
  clear h hl h0
  obtain ⟨X, hX⟩ : ∃ X, (w.alloc (.cells #[.slice A1 xs.length c1, .slice A2 ys.length c2, .slice A3 rs.length c3] 25)).alloc (.cells #[.slice none 0 0, .slice none 0 0, .slice none 0 0] 25) = X := ⟨_, rfl⟩
  have k1 : Blk X w.heap.size 25 #[.slice A1 xs.length c1, .slice A2 ys.length c2, .slice A3 rs.length c3] := by rw [← hX]; exact (Blk.new_ rfl rfl).alloc_ _
  have k2 : Blk X (w.heap.size + 1) 25 #[.slice none 0 0, .slice none 0 0, .slice none 0 0] := by rw [← hX]; exact Blk.new_ (by simp) rfl
  have HBX : Hid (Below w.heap.size w X) := by show Below _ _ _; rw [← hX]; exact ((Below.refl _ _).alloc (Nat.le_refl _) _).alloc (by simp) _
  have q0 : X.cell? ⟨w.heap.size, 0, none⟩ = some (.slice A1 xs.length c1) := (k1.cell_ 0).trans (by simp)
  have q1 : X.cell? ⟨w.heap.size, 1, none⟩ = some (.slice A2 ys.length c2) := (k1.cell_ 1).trans (by simp)
  have q2 : X.cell? ⟨w.heap.size, 2, none⟩ = some (.slice A3 rs.length c3) := (k1.cell_ 2).trans (by simp)
  go_enter Try.func16, Try.ntmps16
  go_wp2_with fail
  (try rw [hX])
  refine (Last_S A1 A2 A3 c1 c2 c3 xs ys rs _ (HM.out.ext HBX.out)).mono ?_
  rw [HL.out]
  rintro e x4 ⟨rfl, hx4⟩
  have HB4 := Lib.hid (HBX.out.trans (hx4.mono HBX.out.size))
  have K1 := Lib.hid (k1.below_ hx4 k1.lt)
  have K2 := Lib.hid (k2.below_ hx4 k2.lt)
  have zx4 := k2.lt
  have zx5 := hx4.size
  clear hx4 k1 k2 HBX q0 q1 q2 hX
  have q0 : x4.cell? ⟨w.heap.size, 0, none⟩ = some (.slice A1 xs.length c1) := (K1.out.cell_ 0).trans (by simp)
  have q1 : x4.cell? ⟨w.heap.size, 1, none⟩ = some (.slice A2 ys.length c2) := (K1.out.cell_ 1).trans (by simp)
  have q2 : x4.cell? ⟨w.heap.size, 2, none⟩ = some (.slice A3 rs.length c3) := (K1.out.cell_ 2).trans (by simp)
  have y0 : x4.cell? ⟨w.heap.size + 1, 0, none⟩ = some (.slice none 0 0) := (K2.out.cell_ 0).trans (by simp)
  have y1 : x4.cell? ⟨w.heap.size + 1, 1, none⟩ = some (.slice none 0 0) := (K2.out.cell_ 1).trans (by simp)
  have y2 : x4.cell? ⟨w.heap.size + 1, 2, none⟩ = some (.slice none 0 0) := (K2.out.cell_ 2).trans (by simp)
  have g0 := K2.out.frozen_ 0
  have g1 := K2.out.frozen_ 1
  have g2 := K2.out.frozen_ 2
  go_wp2_with fail
  refine bodyPost_ret (v := .tuple #[.agg #[.slice none 0 0, .slice none 0 0, .slice none 0 0], .int .i64 0, .int .i64 z]) (by simp [results, Try.results16, go_sem, y0, y1, y2]) rfl ?_
  exact ⟨none, 0, none, 0, none, 0, rfl, inMem_none _, NewL.none_ _, ((HB4.out.setCell (p := ⟨w.heap.size + 1, 0, none⟩) (by simp) _).setCell (p := ⟨w.heap.size + 1, 1, none⟩) (by simp) _).setCell (p := ⟨w.heap.size + 1, 2, none⟩) (by simp) _⟩

set_option maxRecDepth 100000 in
set_option maxHeartbeats 4000000 in
theorem Direct_ok (A1 A2 A3 : Option Addr) (c1 c2 c3 : Nat) (xs ys : List Int) (rs : List Bool) (w : World) (h : InMem w A1 A2 A3 xs ys rs) {f : Int} (hl : lastV xs ys rs = (f, 0)) :
    Calls Try.prog 16 #[.agg #[.slice A1 xs.length c1, .slice A2 ys.length c2, .slice A3 rs.length c3]] w (LPost3 (dirS xs ys rs) (dirF xs ys rs) w) := by
  obtain ⟨us, hus⟩ : ∃ l, wo f xs = l := ⟨_, rfl⟩
  obtain ⟨vs, hvs⟩ : ∃ l, wo f ys = l := ⟨_, rfl⟩
  obtain ⟨ss, hss⟩ : ∃ l, rs.set f.toNat false = l := ⟨_, rfl⟩
  have HE : Hid (dirS xs ys rs = ⟨us, vs, ss, 0⟩ ∧ dirF xs ys rs = f) := ⟨by unfold dirS; rw [hl, if_neg (by simp), hus, hvs, hss], by unfold dirF; rw [hl, if_neg (by simp)]⟩
  have HR := Lib.hid (last_rem hl)
  rw [hus, hvs, hss] at HR
  rw [HE.out.1, HE.out.2]
  have HM := Lib.hid h; have HL := Lib.hid hl
  clear h hl hus hvs hss
  obtain ⟨X, hX⟩ : ∃ X, (w.alloc (.cells #[.slice A1 xs.length c1, .slice A2 ys.length c2, .slice A3 rs.length c3] 25)).alloc (.cells #[.slice none 0 0, .slice none 0 0, .slice none 0 0] 25) = X := ⟨_, rfl⟩
  have k1 : Blk X w.heap.size 25 #[.slice A1 xs.length c1, .slice A2 ys.length c2, .slice A3 rs.length c3] := by rw [← hX]; exact (Blk.new_ rfl rfl).alloc_ _
  have k2 : Blk X (w.heap.size + 1) 25 #[.slice none 0 0, .slice none 0 0, .slice none 0 0] := by rw [← hX]; exact Blk.new_ (by simp) rfl
  have HBX : Hid (Below w.heap.size w X) := by show Below _ _ _; rw [← hX]; exact ((Below.refl _ _).alloc (Nat.le_refl _) _).alloc (by simp) _
  have q0 : X.cell? ⟨w.heap.size, 0, none⟩ = some (.slice A1 xs.length c1) := (k1.cell_ 0).trans (by simp)
  have q1 : X.cell? ⟨w.heap.size, 1, none⟩ = some (.slice A2 ys.length c2) := (k1.cell_ 1).trans (by simp)
  have q2 : X.cell? ⟨w.heap.size, 2, none⟩ = some (.slice A3 rs.length c3) := (k1.cell_ 2).trans (by simp)
  go_enter Try.func16, Try.ntmps16
  go_wp2_with fail
  (try rw [hX])
  refine (Last_S A1 A2 A3 c1 c2 c3 xs ys rs _ (HM.out.ext HBX.out)).mono ?_
  rw [HL.out]
  rintro e x4 ⟨rfl, hx4⟩
  have HB4 := Lib.hid (HBX.out.trans (hx4.mono HBX.out.size))
  have K1 := Lib.hid (k1.below_ hx4 k1.lt)
  have K2 := Lib.hid (k2.below_ hx4 k2.lt)
  have zx4 := k2.lt
  have zx5 := hx4.size
  clear hx4 k1 k2 HBX q0 q1 q2 hX
  have q0 : x4.cell? ⟨w.heap.size, 0, none⟩ = some (.slice A1 xs.length c1) := (K1.out.cell_ 0).trans (by simp)
  have q1 : x4.cell? ⟨w.heap.size, 1, none⟩ = some (.slice A2 ys.length c2) := (K1.out.cell_ 1).trans (by simp)
  have q2 : x4.cell? ⟨w.heap.size, 2, none⟩ = some (.slice A3 rs.length c3) := (K1.out.cell_ 2).trans (by simp)
  go_wp2_with fail
  refine (Remove_S A1 A2 A3 c1 c2 c3 xs ys rs _ (HM.out.ext HB4.out) f).mono ?_
  rw [HR.out]
  rintro e x5 ⟨B1, d1, B2, d2, B3, d3, rfl, hm5, hn5, hb5⟩
  dsimp only at hm5 hn5 ⊢
  have z45 := hb5.size
  have K25 := Lib.hid (K2.out.below_ hb5 K2.out.lt)
  have HM5 := Lib.hid hm5
  have HN7 : Hid (NewL (w.heap.size + 2) B1 B2 B3) := hn5.mono (by omega)
  have HB5 := Lib.hid (HB4.out.trans (hb5.mono HB4.out.size))
  have kl5 := K25.out.lt
  clear hm5 hn5 hb5 q0 q1 q2 K1 HB4
  have y0 : x5.cell? ⟨w.heap.size + 1, 0, none⟩ = some (.slice none 0 0) := (K25.out.cell_ 0).trans (by simp)
  have y1 : x5.cell? ⟨w.heap.size + 1, 1, none⟩ = some (.slice none 0 0) := (K25.out.cell_ 1).trans (by simp)
  have y2 : x5.cell? ⟨w.heap.size + 1, 2, none⟩ = some (.slice none 0 0) := (K25.out.cell_ 2).trans (by simp)
  have g0 := K25.out.frozen_ 0
  have g1 := K25.out.frozen_ 1
  have g2 := K25.out.frozen_ 2
  have nb1 : w.heap.size + 1 ≠ x5.heap.size := by omega
  have nb2 : x5.heap.size ≠ w.heap.size + 1 := by omega
  go_wp2_with fail
  clear y0 y1 y2 g0 g1 g2
  obtain ⟨U, hU⟩ : ∃ U, ((((((x5.setCell ⟨w.heap.size + 1, 0, none⟩ (.slice B1 us.length d1)).setCell ⟨w.heap.size + 1, 1, none⟩ (.slice B2 vs.length d2)).setCell ⟨w.heap.size + 1, 2, none⟩ (.slice B3 ss.length d3)).setCell ⟨w.heap.size + 1, 0, none⟩ (.slice B1 us.length d1)).setCell ⟨w.heap.size + 1, 1, none⟩ (.slice B2 vs.length d2)).setCell ⟨w.heap.size + 1, 2, none⟩ (.slice B3 ss.length d3)) = U := ⟨_, rfl⟩
  have KU : Blk U (w.heap.size + 1) 25 #[.slice B1 us.length d1, .slice B2 vs.length d2, .slice B3 ss.length d3] := by
    rw [← hU]
    simpa using ((((((K25.out.set_ 0 (.slice B1 us.length d1)).set_ 1 (.slice B2 vs.length d2)).set_ 2 (.slice B3 ss.length d3)).set_ 0 (.slice B1 us.length d1)).set_ 1 (.slice B2 vs.length d2)).set_ 2 (.slice B3 ss.length d3))
  have MU : InMem U B1 B2 B3 us vs ss := by
    rw [← hU]
    exact ((((((HM5.out.far_ HN7.out (show w.heap.size + 1 < w.heap.size + 2 by omega) 0 (.slice B1 us.length d1)).far_ HN7.out (show w.heap.size + 1 < w.heap.size + 2 by omega) 1 (.slice B2 vs.length d2)).far_ HN7.out (show w.heap.size + 1 < w.heap.size + 2 by omega) 2 (.slice B3 ss.length d3)).far_ HN7.out (show w.heap.size + 1 < w.heap.size + 2 by omega) 0 (.slice B1 us.length d1)).far_ HN7.out (show w.heap.size + 1 < w.heap.size + 2 by omega) 1 (.slice B2 vs.length d2)).far_ HN7.out (show w.heap.size + 1 < w.heap.size + 2 by omega) 2 (.slice B3 ss.length d3))
  have BU : Below w.heap.size w U := by
    rw [← hU]
    exact ((((((HB5.out.setCell (p := ⟨w.heap.size + 1, 0, none⟩) (by simp) _).setCell (p := ⟨w.heap.size + 1, 1, none⟩) (by simp) _).setCell (p := ⟨w.heap.size + 1, 2, none⟩) (by simp) _).setCell (p := ⟨w.heap.size + 1, 0, none⟩) (by simp) _).setCell (p := ⟨w.heap.size + 1, 1, none⟩) (by simp) _).setCell (p := ⟨w.heap.size + 1, 2, none⟩) (by simp) _)
  (try rw [hU])
  have u0 : U.cell? ⟨w.heap.size + 1, 0, none⟩ = some (.slice B1 us.length d1) := (KU.cell_ 0).trans (by simp)
  have u1 : U.cell? ⟨w.heap.size + 1, 1, none⟩ = some (.slice B2 vs.length d2) := (KU.cell_ 1).trans (by simp)
  have u2 : U.cell? ⟨w.heap.size + 1, 2, none⟩ = some (.slice B3 ss.length d3) := (KU.cell_ 2).trans (by simp)
  clear hU KU
  refine bodyPost_ret (v := .tuple #[.agg #[.slice B1 us.length d1, .slice B2 vs.length d2, .slice B3 ss.length d3], .int .i64 f, .int .i64 0]) (by simp [results, Try.results16, go_sem, u0, u1, u2]) rfl ?_
  exact ⟨B1, d1, B2, d2, B3, d3, rfl, MU, HN7.out.mono (by omega), BU⟩

theorem Direct_any (A1 A2 A3 : Option Addr) (c1 c2 c3 : Nat) (xs ys : List Int) (rs : List Bool) (w : World) (h : InMem w A1 A2 A3 xs ys rs) :
    Calls Try.prog 16 #[.agg #[.slice A1 xs.length c1, .slice A2 ys.length c2, .slice A3 rs.length c3]] w (LPost3 (dirS xs ys rs) (dirF xs ys rs) w) := by
  obtain ⟨⟨f, z⟩, hl⟩ : ∃ R, lastV xs ys rs = R := ⟨_, rfl⟩
  by_cases h0 : z = 0
  · subst h0; exact Direct_ok A1 A2 A3 c1 c2 c3 xs ys rs w h hl
  · exact Direct_bad A1 A2 A3 c1 c2 c3 xs ys rs w h hl h0

set_option maxRecDepth 100000 in
set_option maxHeartbeats 4000000 in
theorem RDirect_bad (A1 A2 A3 : Option Addr) (c1 c2 c3 : Nat) (xs ys : List Int) (rs : List Bool) (w : World) (h : InMem w A1 A2 A3 xs ys rs) {f0 z : Int} (hl : lastV xs ys rs = (f0, z)) (h0 : z ≠ 0) :
    Calls Try.prog 17 #[.agg #[.slice A1 xs.length c1, .slice A2 ys.length c2, .slice A3 rs.length c3]] w (LPost3 (dirS xs ys rs) (dirF xs ys rs) w) := by
  have HE : Hid (dirS xs ys rs = .bad z ∧ dirF xs ys rs = 0) := ⟨by unfold dirS; rw [hl, if_pos h0], by unfold dirF; rw [hl, if_pos h0]⟩
  rw [HE.out.1, HE.out.2]
  have HM := Lib.hid h; have HL := Lib.hid hl
  have nz : (z != 0) = true := by simpa using h0
  clear h hl h0
  obtain ⟨X, hX⟩ : ∃ X, (w.alloc (.cells #[.slice A1 xs.length c1, .slice A2 ys.length c2, .slice A3 rs.length c3] 25)).alloc (.cells #[.slice none 0 0, .slice none 0 0, .slice none 0 0] 25) = X := ⟨_, rfl⟩
  have k1 : Blk X w.heap.size 25 #[.slice A1 xs.length c1, .slice A2 ys.length c2, .slice A3 rs.length c3] := by rw [← hX]; exact (Blk.new_ rfl rfl).alloc_ _
  have k2 : Blk X (w.heap.size + 1) 25 #[.slice none 0 0, .slice none 0 0, .slice none 0 0] := by rw [← hX]; exact Blk.new_ (by simp) rfl
  have HBX : Hid (Below w.heap.size w X) := by show Below _ _ _; rw [← hX]; exact ((Below.refl _ _).alloc (Nat.le_refl _) _).alloc (by simp) _
  have q0 : X.cell? ⟨w.heap.size, 0, none⟩ = some (.slice A1 xs.length c1) := (k1.cell_ 0).trans (by simp)
  have q1 : X.cell? ⟨w.heap.size, 1, none⟩ = some (.slice A2 ys.length c2) := (k1.cell_ 1).trans (by simp)
  have q2 : X.cell? ⟨w.heap.size, 2, none⟩ = some (.slice A3 rs.length c3) := (k1.cell_ 2).trans (by simp)
  go_enter Try.func17, Try.ntmps17
  go_wp2_with fail
  (try rw [hX])
  refine (RLast_S A1 A2 A3 c1 c2 c3 xs ys rs _ (HM.out.ext HBX.out)).mono ?_
  rw [HL.out]
  rintro e x4 ⟨rfl, hx4⟩
  have HB4 := Lib.hid (HBX.out.trans (hx4.mono HBX.out.size))
  have K1 := Lib.hid (k1.below_ hx4 k1.lt)
  have K2 := Lib.hid (k2.below_ hx4 k2.lt)
  have zx4 := k2.lt
  have zx5 := hx4.size
  clear hx4 k1 k2 HBX q0 q1 q2 hX
  have q0 : x4.cell? ⟨w.heap.size, 0, none⟩ = some (.slice A1 xs.length c1) := (K1.out.cell_ 0).trans (by simp)
  have q1 : x4.cell? ⟨w.heap.size, 1, none⟩ = some (.slice A2 ys.length c2) := (K1.out.cell_ 1).trans (by simp)
  have q2 : x4.cell? ⟨w.heap.size, 2, none⟩ = some (.slice A3 rs.length c3) := (K1.out.cell_ 2).trans (by simp)
  have y0 : x4.cell? ⟨w.heap.size + 1, 0, none⟩ = some (.slice none 0 0) := (K2.out.cell_ 0).trans (by simp)
  have y1 : x4.cell? ⟨w.heap.size + 1, 1, none⟩ = some (.slice none 0 0) := (K2.out.cell_ 1).trans (by simp)
  have y2 : x4.cell? ⟨w.heap.size + 1, 2, none⟩ = some (.slice none 0 0) := (K2.out.cell_ 2).trans (by simp)
  have g0 := K2.out.frozen_ 0
  have g1 := K2.out.frozen_ 1
  have g2 := K2.out.frozen_ 2
  go_wp2_with fail
  refine bodyPost_ret (v := .tuple #[.agg #[.slice none 0 0, .slice none 0 0, .slice none 0 0], .int .i64 0, .int .i64 z]) (by simp [results, Try.results17, go_sem, y0, y1, y2]) rfl ?_
  exact ⟨none, 0, none, 0, none, 0, rfl, inMem_none _, NewL.none_ _, ((HB4.out.setCell (p := ⟨w.heap.size + 1, 0, none⟩) (by simp) _).setCell (p := ⟨w.heap.size + 1, 1, none⟩) (by simp) _).setCell (p := ⟨w.heap.size + 1, 2, none⟩) (by simp) _⟩

set_option maxRecDepth 100000 in
set_option maxHeartbeats 4000000 in
theorem RDirect_ok (A1 A2 A3 : Option Addr) (c1 c2 c3 : Nat) (xs ys : List Int) (rs : List Bool) (w : World) (h : InMem w A1 A2 A3 xs ys rs) {f : Int} (hl : lastV xs ys rs = (f, 0)) :
    Calls Try.prog 17 #[.agg #[.slice A1 xs.length c1, .slice A2 ys.length c2, .slice A3 rs.length c3]] w (LPost3 (dirS xs ys rs) (dirF xs ys rs) w) := by
  obtain ⟨us, hus⟩ : ∃ l, wo f xs = l := ⟨_, rfl⟩
  obtain ⟨vs, hvs⟩ : ∃ l, wo f ys = l := ⟨_, rfl⟩
  obtain ⟨ss, hss⟩ : ∃ l, rs.set f.toNat false = l := ⟨_, rfl⟩
  have HE : Hid (dirS xs ys rs = ⟨us, vs, ss, 0⟩ ∧ dirF xs ys rs = f) := ⟨by unfold dirS; rw [hl, if_neg (by simp), hus, hvs, hss], by unfold dirF; rw [hl, if_neg (by simp)]⟩
  have HR := Lib.hid (last_rem hl)
  rw [hus, hvs, hss] at HR
  rw [HE.out.1, HE.out.2]
  have HM := Lib.hid h; have HL := Lib.hid hl
  clear h hl hus hvs hss
  obtain ⟨X, hX⟩ : ∃ X, (w.alloc (.cells #[.slice A1 xs.length c1, .slice A2 ys.length c2, .slice A3 rs.length c3] 25)).alloc (.cells #[.slice none 0 0, .slice none 0 0, .slice none 0 0] 25) = X := ⟨_, rfl⟩
  have k1 : Blk X w.heap.size 25 #[.slice A1 xs.length c1, .slice A2 ys.length c2, .slice A3 rs.length c3] := by rw [← hX]; exact (Blk.new_ rfl rfl).alloc_ _
  have k2 : Blk X (w.heap.size + 1) 25 #[.slice none 0 0, .slice none 0 0, .slice none 0 0] := by rw [← hX]; exact Blk.new_ (by simp) rfl
  have HBX : Hid (Below w.heap.size w X) := by show Below _ _ _; rw [← hX]; exact ((Below.refl _ _).alloc (Nat.le_refl _) _).alloc (by simp) _
  have q0 : X.cell? ⟨w.heap.size, 0, none⟩ = some (.slice A1 xs.length c1) := (k1.cell_ 0).trans (by simp)
  have q1 : X.cell? ⟨w.heap.size, 1, none⟩ = some (.slice A2 ys.length c2) := (k1.cell_ 1).trans (by simp)
  have q2 : X.cell? ⟨w.heap.size, 2, none⟩ = some (.slice A3 rs.length c3) := (k1.cell_ 2).trans (by simp)
  go_enter Try.func17, Try.ntmps17
  go_wp2_with fail
  (try rw [hX])
  refine (RLast_S A1 A2 A3 c1 c2 c3 xs ys rs _ (HM.out.ext HBX.out)).mono ?_
  rw [HL.out]
  rintro e x4 ⟨rfl, hx4⟩
  have HB4 := Lib.hid (HBX.out.trans (hx4.mono HBX.out.size))
  have K1 := Lib.hid (k1.below_ hx4 k1.lt)
  have K2 := Lib.hid (k2.below_ hx4 k2.lt)
  have zx4 := k2.lt
  have zx5 := hx4.size
  clear hx4 k1 k2 HBX q0 q1 q2 hX
  have q0 : x4.cell? ⟨w.heap.size, 0, none⟩ = some (.slice A1 xs.length c1) := (K1.out.cell_ 0).trans (by simp)
  have q1 : x4.cell? ⟨w.heap.size, 1, none⟩ = some (.slice A2 ys.length c2) := (K1.out.cell_ 1).trans (by simp)
  have q2 : x4.cell? ⟨w.heap.size, 2, none⟩ = some (.slice A3 rs.length c3) := (K1.out.cell_ 2).trans (by simp)
  go_wp2_with fail
  refine (RRemove_S A1 A2 A3 c1 c2 c3 xs ys rs _ (HM.out.ext HB4.out) f).mono ?_
  rw [HR.out]
  rintro e x5 ⟨B1, d1, B2, d2, B3, d3, rfl, hm5, hn5, hb5⟩
  dsimp only at hm5 hn5 ⊢
  have z45 := hb5.size
  have K25 := Lib.hid (K2.out.below_ hb5 K2.out.lt)
  have HM5 := Lib.hid hm5
  have HN7 : Hid (NewL (w.heap.size + 2) B1 B2 B3) := hn5.mono (by omega)
  have HB5 := Lib.hid (HB4.out.trans (hb5.mono HB4.out.size))
  have kl5 := K25.out.lt
  clear hm5 hn5 hb5 q0 q1 q2 K1 HB4
  have y0 : x5.cell? ⟨w.heap.size + 1, 0, none⟩ = some (.slice none 0 0) := (K25.out.cell_ 0).trans (by simp)
  have y1 : x5.cell? ⟨w.heap.size + 1, 1, none⟩ = some (.slice none 0 0) := (K25.out.cell_ 1).trans (by simp)
  have y2 : x5.cell? ⟨w.heap.size + 1, 2, none⟩ = some (.slice none 0 0) := (K25.out.cell_ 2).trans (by simp)
  have g0 := K25.out.frozen_ 0
  have g1 := K25.out.frozen_ 1
  have g2 := K25.out.frozen_ 2
  have nb1 : w.heap.size + 1 ≠ x5.heap.size := by omega
  have nb2 : x5.heap.size ≠ w.heap.size + 1 := by omega
  go_wp2_with fail
  clear y0 y1 y2 g0 g1 g2
  obtain ⟨U, hU⟩ : ∃ U, (((x5.setCell ⟨w.heap.size + 1, 0, none⟩ (.slice B1 us.length d1)).setCell ⟨w.heap.size + 1, 1, none⟩ (.slice B2 vs.length d2)).setCell ⟨w.heap.size + 1, 2, none⟩ (.slice B3 ss.length d3)).alloc (.cells #[.slice B1 us.length d1, .slice B2 vs.length d2, .slice B3 ss.length d3] 25) = U := ⟨_, rfl⟩
  have KU : Blk U (w.heap.size + 1) 25 #[.slice B1 us.length d1, .slice B2 vs.length d2, .slice B3 ss.length d3] := by
    rw [← hU]
    simpa using (((K25.out.set_ 0 (.slice B1 us.length d1)).set_ 1 (.slice B2 vs.length d2)).set_ 2 (.slice B3 ss.length d3)).alloc_ _
  have MU : InMem U B1 B2 B3 us vs ss := by
    rw [← hU]
    exact (((HM5.out.far_ HN7.out (show w.heap.size + 1 < w.heap.size + 2 by omega) 0 (.slice B1 us.length d1)).far_ HN7.out (show w.heap.size + 1 < w.heap.size + 2 by omega) 1 (.slice B2 vs.length d2)).far_ HN7.out (show w.heap.size + 1 < w.heap.size + 2 by omega) 2 (.slice B3 ss.length d3)).ext ((Below.refl _ _).alloc (Nat.le_refl _) _)
  have BU : Below w.heap.size w U := by
    rw [← hU]
    exact (((HB5.out.setCell (p := ⟨w.heap.size + 1, 0, none⟩) (by simp) _).setCell (p := ⟨w.heap.size + 1, 1, none⟩) (by simp) _).setCell (p := ⟨w.heap.size + 1, 2, none⟩) (by simp) _).alloc (by simp [World.setCell]; omega) _
  (try rw [hU])
  have u0 : U.cell? ⟨w.heap.size + 1, 0, none⟩ = some (.slice B1 us.length d1) := (KU.cell_ 0).trans (by simp)
  have u1 : U.cell? ⟨w.heap.size + 1, 1, none⟩ = some (.slice B2 vs.length d2) := (KU.cell_ 1).trans (by simp)
  have u2 : U.cell? ⟨w.heap.size + 1, 2, none⟩ = some (.slice B3 ss.length d3) := (KU.cell_ 2).trans (by simp)
  clear hU KU
  refine bodyPost_ret (v := .tuple #[.agg #[.slice B1 us.length d1, .slice B2 vs.length d2, .slice B3 ss.length d3], .int .i64 f, .int .i64 0]) (by simp [results, Try.results17, go_sem, u0, u1, u2]) rfl ?_
  exact ⟨B1, d1, B2, d2, B3, d3, rfl, MU, HN7.out.mono (by omega), BU⟩

theorem RDirect_any (A1 A2 A3 : Option Addr) (c1 c2 c3 : Nat) (xs ys : List Int) (rs : List Bool) (w : World) (h : InMem w A1 A2 A3 xs ys rs) :
    Calls Try.prog 17 #[.agg #[.slice A1 xs.length c1, .slice A2 ys.length c2, .slice A3 rs.length c3]] w (LPost3 (dirS xs ys rs) (dirF xs ys rs) w) := by
  obtain ⟨⟨f, z⟩, hl⟩ : ∃ R, lastV xs ys rs = R := ⟨_, rfl⟩
  by_cases h0 : z = 0
  · subst h0; exact RDirect_ok A1 A2 A3 c1 c2 c3 xs ys rs w h hl
  · exact RDirect_bad A1 A2 A3 c1 c2 c3 xs ys rs w h hl h0
end Go.Proofs.Ytiobbdfkimpfbaa
