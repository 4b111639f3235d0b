/- Contracts of package scan: Direct; headgateref30: Direct. Written by gen_sco.py. -/
import Derived.Test.YtiobbdfkimpfbaaScJ
namespace Go.Proofs.Ytiobbdfkimpfbaa
open Go.RowKit Go.Maps

/-- A direct step. -/
def dirS (xs ys : List Int) (rs : List Bool) : LR := if (lastV xs ys rs).2 ≠ 0 then .bad (lastV xs ys rs).2 else ⟨wo (lastV xs ys rs).1 xs, wo (lastV xs ys rs).1 ys, rs.set (lastV xs ys rs).1.toNat false, 0⟩
def dirF (xs ys : List Int) (rs : List Bool) : Int := if (lastV xs ys rs).2 ≠ 0 then 0 else (lastV xs ys rs).1
theorem last_mem {xs ys : List Int} {rs : List Bool} {f : Int} (h : lastV xs ys rs = (f, 0)) : lruChk xs ys rs = 0 ∧ f ∈ xs ++ ys := by
  unfold lastV at h
  by_cases h0 : lruChk xs ys rs = 0
  · rw [if_neg (by simpa using h0)] at h
    refine ⟨h0, ?_⟩
    cases hl : ys.reverse ++ xs.reverse with
    | nil => rw [hl] at h; simp at h
    | cons a t =>
      rw [hl] at h
      obtain rfl : a = f := (Prod.mk.inj h).1
      have : a ∈ ys.reverse ++ xs.reverse := by rw [hl]; simp
      simpa [or_comm] using this
  · rw [if_pos h0] at h; exact absurd (Prod.mk.inj h).2 h0
theorem last_rem {xs ys : List Int} {rs : List Bool} {f : Int} (h : lastV xs ys rs = (f, 0)) : remS xs ys rs f = ⟨wo f xs, wo f ys, rs.set f.toNat false, 0⟩ := by
  obtain ⟨hc, hm⟩ := last_mem h
  have hr := (valid_of_chk hc).range f hm
  unfold remS
  rw [show lruChd xs ys rs f = 0 by unfold lruChd; rw [if_neg (by simpa using hc), if_pos hr], if_neg (by simp), if_neg]
  unfold fWhere
  rcases List.mem_append.1 hm with hx | hy
  · rw [if_pos hx]; decide
  · split
    · decide
    · first | decide | (rw [if_pos hy]; decide)

set_option maxRecDepth 100000 in
set_option maxHeartbeats 4000000 in
theorem Direct_bad (A1 A2 A3 : Option Addr) (c1 c2 c3 : Nat) (xs ys : List Int) (rs : List Bool) (w : World) (h : InMem w A1 A2 A3 xs ys rs) {f0 z : Int} (hl : lastV xs ys rs = (f0, z)) (h0 : z ≠ 0) :
    Calls Try.prog 16 #[.agg #[.slice A1 xs.length c1, .slice A2 ys.length c2, .slice A3 rs.length c3]] w (LPost3 (dirS xs ys rs) (dirF xs ys rs) w) := by
  have HE : Hid (dirS xs ys rs = .bad z ∧ dirF xs ys rs = 0) := ⟨by unfold dirS; rw [hl, if_pos h0], by unfold dirF; rw [hl, if_pos h0]⟩
  rw [HE.out.1, HE.out.2]
  have HM := Lib.hid h; have HL := Lib.hid hl
  have nz : (z != 0) = true := by simpa using h0
  clear h hl h0
  obtain ⟨X, hX⟩ : ∃ X, (w.alloc (.cells #[.slice A1 xs.length c1, .slice A2 ys.length c2, .slice A3 rs.length c3] 25)).alloc (.cells #[.slice none 0 0, .slice none 0 0, .slice none 0 0] 25) = X := ⟨_, rfl⟩
  have k1 : Blk X w.heap.size 25 #[.slice A1 xs.length c1, .slice A2 ys.length c2, .slice A3 rs.length c3] := by rw [← hX]; exact (Blk.new_ rfl rfl).alloc_ _
  have k2 : Blk X (w.heap.size + 1) 25 #[.slice none 0 0, .slice none 0 0, .slice none 0 0] := by rw [← hX]; exact Blk.new_ (by simp) rfl
  have HBX : Hid (Below w.heap.size w X) := by show Below _ _ _; rw [← hX]; exact ((Below.refl _ _).alloc (Nat.le_refl _) _).alloc (by simp) _
  have q0 : X.cell? ⟨w.heap.size, 0, none⟩ = some (.slice A1 xs.length c1) := (k1.cell_ 0).trans (by simp)
  have q1 : X.cell? ⟨w.heap.size, 1, none⟩ = some (.slice A2 ys.length c2) := (k1.cell_ 1).trans (by simp)
  have q2 : X.cell? ⟨w.heap.size, 2, none⟩ = some (.slice A3 rs.length c3) := (k1.cell_ 2).trans (by simp)
  go_enter Try.func16, Try.ntmps16
  go_wp2_with fail
  (try rw [hX])
  refine (Last_S A1 A2 A3 c1 c2 c3 xs ys rs _ (HM.out.ext HBX.out)).mono ?_
  rw [HL.out]
  rintro e x4 ⟨rfl, hx4⟩
  have HB4 := Lib.hid (HBX.out.trans (hx4.mono HBX.out.size))
  have K1 := Lib.hid (k1.below_ hx4 k1.lt)
  have K2 := Lib.hid (k2.below_ hx4 k2.lt)
  have zx4 := k2.lt
  have zx5 := hx4.size
  clear hx4 k1 k2 HBX q0 q1 q2 hX
  have q0 : x4.cell? ⟨w.heap.size, 0, none⟩ = some (.slice A1 xs.length c1) := (K1.out.cell_ 0).trans (by simp)
  have q1 : x4.cell? ⟨w.heap.size, 1, none⟩ = some (.slice A2 ys.length c2) := (K1.out.cell_ 1).trans (by simp)
  have q2 : x4.cell? ⟨w.heap.size, 2, none⟩ = some (.slice A3 rs.length c3) := (K1.out.cell_ 2).trans (by simp)
  have y0 : x4.cell? ⟨w.heap.size + 1, 0, none⟩ = some (.slice none 0 0) := (K2.out.cell_ 0).trans (by simp)
  have y1 : x4.cell? ⟨w.heap.size + 1, 1, none⟩ = some (.slice none 0 0) := (K2.out.cell_ 1).trans (by simp)
  have y2 : x4.cell? ⟨w.heap.size + 1, 2, none⟩ = some (.slice none 0 0) := (K2.out.cell_ 2).trans (by simp)
  have g0 := K2.out.frozen_ 0
  have g1 := K2.out.frozen_ 1
  have g2 := K2.out.frozen_ 2
  go_wp2_with fail
  refine bodyPost_ret (v := .tuple #[.agg #[.slice none 0 0, .slice none 0 0, .slice none 0 0], .int .i64 0, .int .i64 z]) (by simp [results, Try.results16, go_sem, y0, y1, y2]) rfl ?_
  exact ⟨none, 0, none, 0, none, 0, rfl, inMem_none _, NewL.none_ _, ((HB4.out.setCell (p := ⟨w.heap.size + 1, 0, none⟩) (by simp) _).setCell (p := ⟨w.heap.size + 1, 1, none⟩) (by simp) _).setCell (p := ⟨w.heap.size + 1, 2, none⟩) (by simp) _⟩

set_option maxRecDepth 100000 in
set_option maxHeartbeats 4000000 in
theorem Direct_ok (A1 A2 A3 : Option Addr) (c1 c2 c3 : Nat) (xs ys : List Int) (rs : List Bool) (w : World) (h : InMem w A1 A2 A3 xs ys rs) {f : Int} (hl : lastV xs ys rs = (f, 0)) :
    Calls Try.prog 16 #[.agg #[.slice A1 xs.length c1, .slice A2 ys.length c2, .slice A3 rs.length c3]] w (LPost3 (dirS xs ys rs) (dirF xs ys rs) w) := by
  obtain ⟨us, hus⟩ : ∃ l, wo f xs = l := ⟨_, rfl⟩
  obtain ⟨vs, hvs⟩ : ∃ l, wo f ys = l := ⟨_, rfl⟩
  obtain ⟨ss, hss⟩ : ∃ l, rs.set f.toNat false = l := ⟨_, rfl⟩
  have HE : Hid (dirS xs ys rs = ⟨us, vs, ss, 0⟩ ∧ dirF xs ys rs = f) := ⟨by unfold dirS; rw [hl, if_neg (by simp), hus, hvs, hss], by unfold dirF; rw [hl, if_neg (by simp)]⟩
  have HR := Lib.hid (last_rem hl)
  rw [hus, hvs, hss] at HR
  rw [HE.out.1, HE.out.2]
  have HM := Lib.hid h; have HL := Lib.hid hl
  clear h hl hus hvs hss
  obtain ⟨X, hX⟩ : ∃ X, (w.alloc (.cells #[.slice A1 xs.length c1, .slice A2 ys.length c2, .slice A3 rs.length c3] 25)).alloc (.cells #[.slice none 0 0, .slice none 0 0, .slice none 0 0] 25) = X := ⟨_, rfl⟩
  have k1 : Blk X w.heap.size 25 #[.slice A1 xs.length c1, .slice A2 ys.length c2, .slice A3 rs.length c3] := by rw [← hX]; exact (Blk.new_ rfl rfl).alloc_ _
  have k2 : Blk X (w.heap.size + 1) 25 #[.slice none 0 0, .slice none 0 0, .slice none 0 0] := by rw [← hX]; exact Blk.new_ (by simp) rfl
  have HBX : Hid (Below w.heap.size w X) := by show Below _ _ _; rw [← hX]; exact ((Below.refl _ _).alloc (Nat.le_refl _) _).alloc (by simp) _
  have q0 : X.cell? ⟨w.heap.size, 0, none⟩ = some (.slice A1 xs.length c1) := (k1.cell_ 0).trans (by simp)
  have q1 : X.cell? ⟨w.heap.size, 1, none⟩ = some (.slice A2 ys.length c2) := (k1.cell_ 1).trans (by simp)
  have q2 : X.cell? ⟨w.heap.size, 2, none⟩ = some (.slice A3 rs.length c3) := (k1.cell_ 2).trans (by simp)
  go_enter Try.func16, Try.ntmps16
  go_wp2_with fail
  (try rw [hX])
  refine (Last_S A1 A2 A3 c1 c2 c3 xs ys rs _ (HM.out.ext HBX.out)).mono ?_
  rw [HL.out]
  rintro e x4 ⟨rfl, hx4⟩
  have HB4 := Lib.hid (HBX.out.trans (hx4.mono HBX.out.size))
  have K1 := Lib.hid (k1.below_ hx4 k1.lt)
  have K2 := Lib.hid (k2.below_ hx4 k2.lt)
  have zx4 := k2.lt
  have zx5 := hx4.size
  clear hx4 k1 k2 HBX q0 q1 q2 hX
  have q0 : x4.cell? ⟨w.heap.size, 0, none⟩ = some (.slice A1 xs.length c1) := (K1.out.cell_ 0).trans (by simp)
  have q1 : x4.cell? ⟨w.heap.size, 1, none⟩ = some (.slice A2 ys.length c2) := (K1.out.cell_ 1).trans (by simp)
  have q2 : x4.cell? ⟨w.heap.size, 2, none⟩ = some (.slice A3 rs.length c3) := (K1.out.cell_ 2).trans (by simp)
  go_wp2_with fail
  refine (Remove_S A1 A2 A3 c1 c2 c3 xs ys rs _ (HM.out.ext HB4.out) f).mono ?_
  rw [HR.out]
  rintro e x5 ⟨B1, d1, B2, d2, B3, d3, rfl, hm5, hn5, hb5⟩
  dsimp only at hm5 hn5 ⊢
  have z45 := hb5.size
  have K25 := Lib.hid (K2.out.below_ hb5 K2.out.lt)
  have HM5 := Lib.hid hm5
  have HN7 : Hid (NewL (w.heap.size + 2) B1 B2 B3) := hn5.mono (by omega)
  have HB5 := Lib.hid (HB4.out.trans (hb5.mono HB4.out.size))
  have kl5 := K25.out.lt
  clear hm5 hn5 hb5 q0 q1 q2 K1 HB4
  have y0 : x5.cell? ⟨w.heap.size + 1, 0, none⟩ = some (.slice none 0 0) := (K25.out.cell_ 0).trans (by simp)
  have y1 : x5.cell? ⟨w.heap.size + 1, 1, none⟩ = some (.slice none 0 0) := (K25.out.cell_ 1).trans (by simp)
  have y2 : x5.cell? ⟨w.heap.size + 1, 2, none⟩ = some (.slice none 0 0) := (K25.out.cell_ 2).trans (by simp)
  have g0 := K25.out.frozen_ 0
  have g1 := K25.out.frozen_ 1
  have g2 := K25.out.frozen_ 2
  have nb1 : w.heap.size + 1 ≠ x5.heap.size := by omega
  have nb2 : x5.heap.size ≠ w.heap.size + 1 := by omega
  go_wp2_with fail
  clear y0 y1 y2 g0 g1 g2
  obtain ⟨U, hU⟩ : ∃ U, ((((((x5.setCell ⟨w.heap.size + 1, 0, none⟩ (.slice B1 us.length d1)).setCell ⟨w.heap.size + 1, 1, none⟩ (.slice B2 vs.length d2)).setCell ⟨w.heap.size + 1, 2, none⟩ (.slice B3 ss.length d3)).setCell ⟨w.heap.size + 1, 0, none⟩ (.slice B1 us.length d1)).setCell ⟨w.heap.size + 1, 1, none⟩ (.slice B2 vs.length d2)).setCell ⟨w.heap.size + 1, 2, none⟩ (.slice B3 ss.length d3)) = U := ⟨_, rfl⟩
  have KU : Blk U (w.heap.size + 1) 25 #[.slice B1 us.length d1, .slice B2 vs.length d2, .slice B3 ss.length d3] := by
    rw [← hU]
    simpa using ((((((K25.out.set_ 0 (.slice B1 us.length d1)).set_ 1 (.slice B2 vs.length d2)).set_ 2 (.slice B3 ss.length d3)).set_ 0 (.slice B1 us.length d1)).set_ 1 (.slice B2 vs.length d2)).set_ 2 (.slice B3 ss.length d3))
  have MU : InMem U B1 B2 B3 us vs ss := by
    rw [← hU]
    exact ((((((HM5.out.far_ HN7.out (show w.heap.size + 1 < w.heap.size + 2 by omega) 0 (.slice B1 us.length d1)).far_ HN7.out (show w.heap.size + 1 < w.heap.size + 2 by omega) 1 (.slice B2 vs.length d2)).far_ HN7.out (show w.heap.size + 1 < w.heap.size + 2 by omega) 2 (.slice B3 ss.length d3)).far_ HN7.out (show w.heap.size + 1 < w.heap.size + 2 by omega) 0 (.slice B1 us.length d1)).far_ HN7.out (show w.heap.size + 1 < w.heap.size + 2 by omega) 1 (.slice B2 vs.length d2)).far_ HN7.out (show w.heap.size + 1 < w.heap.size + 2 by omega) 2 (.slice B3 ss.length d3))
  have BU : Below w.heap.size w U := by
    rw [← hU]
    exact ((((((HB5.out.setCell (p := ⟨w.heap.size + 1, 0, none⟩) (by simp) _).setCell (p := ⟨w.heap.size + 1, 1, none⟩) (by simp) _).setCell (p := ⟨w.heap.size + 1, 2, none⟩) (by simp) _).setCell (p := ⟨w.heap.size + 1, 0, none⟩) (by simp) _).setCell (p := ⟨w.heap.size + 1, 1, none⟩) (by simp) _).setCell (p := ⟨w.heap.size + 1, 2, none⟩) (by simp) _)
  (try rw [hU])
  have u0 : U.cell? ⟨w.heap.size + 1, 0, none⟩ = some (.slice B1 us.length d1) := (KU.cell_ 0).trans (by simp)
  have u1 : U.cell? ⟨w.heap.size + 1, 1, none⟩ = some (.slice B2 vs.length d2) := (KU.cell_ 1).trans (by simp)
  have u2 : U.cell? ⟨w.heap.size + 1, 2, none⟩ = some (.slice B3 ss.length d3) := (KU.cell_ 2).trans (by simp)
  clear hU KU
  refine bodyPost_ret (v := .tuple #[.agg #[.slice B1 us.length d1, .slice B2 vs.length d2, .slice B3 ss.length d3], .int .i64 f, .int .i64 0]) (by simp [results, Try.results16, go_sem, u0, u1, u2]) rfl ?_
  exact ⟨B1, d1, B2, d2, B3, d3, rfl, MU, HN7.out.mono (by omega), BU⟩

theorem Direct_any (A1 A2 A3 : Option Addr) (c1 c2 c3 : Nat) (xs ys : List Int) (rs : List Bool) (w : World) (h : InMem w A1 A2 A3 xs ys rs) :
    Calls Try.prog 16 #[.agg #[.slice A1 xs.length c1, .slice A2 ys.length c2, .slice A3 rs.length c3]] w (LPost3 (dirS xs ys rs) (dirF xs ys rs) w) := by
  obtain ⟨⟨f, z⟩, hl⟩ : ∃ R, lastV xs ys rs = R := ⟨_, rfl⟩
  by_cases h0 : z = 0
  · subst h0; exact Direct_ok A1 A2 A3 c1 c2 c3 xs ys rs w h hl
  · exact Direct_bad A1 A2 A3 c1 c2 c3 xs ys rs w h hl h0

set_option maxRecDepth 100000 in
set_option maxHeartbeats 4000000 in
theorem RDirect_bad (A1 A2 A3 : Option Addr) (c1 c2 c3 : Nat) (xs ys : List Int) (rs : List Bool) (w : World) (h : InMem w A1 A2 A3 xs ys rs) {f0 z : Int} (hl : lastV xs ys rs = (f0, z)) (h0 : z ≠ 0) :
    Calls Try.prog 17 #[.agg #[.slice A1 xs.length c1, .slice A2 ys.length c2, .slice A3 rs.length c3]] w (LPost3 (dirS xs ys rs) (dirF xs ys rs) w) := by
  have HE : Hid (dirS xs ys rs = .bad z ∧ dirF xs ys rs = 0) := ⟨by unfold dirS; rw [hl, if_pos h0], by unfold dirF; rw [hl, if_pos h0]⟩
  rw [HE.out.1, HE.out.2]
  have HM := Lib.hid h; have HL := Lib.hid hl
  have nz : (z != 0) = true := by simpa using h0
  clear h hl h0
  obtain ⟨X, hX⟩ : ∃ X, (w.alloc (.cells #[.slice A1 xs.length c1, .slice A2 ys.length c2, .slice A3 rs.length c3] 25)).alloc (.cells #[.slice none 0 0, .slice none 0 0, .slice none 0 0] 25) = X := ⟨_, rfl⟩
  have k1 : Blk X w.heap.size 25 #[.slice A1 xs.length c1, .slice A2 ys.length c2, .slice A3 rs.length c3] := by rw [← hX]; exact (Blk.new_ rfl rfl).alloc_ _
  have k2 : Blk X (w.heap.size + 1) 25 #[.slice none 0 0, .slice none 0 0, .slice none 0 0] := by rw [← hX]; exact Blk.new_ (by simp) rfl
  have HBX : Hid (Below w.heap.size w X) := by show Below _ _ _; rw [← hX]; exact ((Below.refl _ _).alloc (Nat.le_refl _) _).alloc (by simp) _
  have q0 : X.cell? ⟨w.heap.size, 0, none⟩ = some (.slice A1 xs.length c1) := (k1.cell_ 0).trans (by simp)
  have q1 : X.cell? ⟨w.heap.size, 1, none⟩ = some (.slice A2 ys.length c2) := (k1.cell_ 1).trans (by simp)
  have q2 : X.cell? ⟨w.heap.size, 2, none⟩ = some (.slice A3 rs.length c3) := (k1.cell_ 2).trans (by simp)
  go_enter Try.func17, Try.ntmps17
  go_wp2_with fail
  (try rw [hX])
  refine (RLast_S A1 A2 A3 c1 c2 c3 xs ys rs _ (HM.out.ext HBX.out)).mono ?_
  rw [HL.out]
  rintro e x4 ⟨rfl, hx4⟩
  have HB4 := Lib.hid (HBX.out.trans (hx4.mono HBX.out.size))
  have K1 := Lib.hid (k1.below_ hx4 k1.lt)
  have K2 := Lib.hid (k2.below_ hx4 k2.lt)
  have zx4 := k2.lt
  have zx5 := hx4.size
  clear hx4 k1 k2 HBX q0 q1 q2 hX
  have q0 : x4.cell? ⟨w.heap.size, 0, none⟩ = some (.slice A1 xs.length c1) := (K1.out.cell_ 0).trans (by simp)
  have q1 : x4.cell? ⟨w.heap.size, 1, none⟩ = some (.slice A2 ys.length c2) := (K1.out.cell_ 1).trans (by simp)
  have q2 : x4.cell? ⟨w.heap.size, 2, none⟩ = some (.slice A3 rs.length c3) := (K1.out.cell_ 2).trans (by simp)
  have y0 : x4.cell? ⟨w.heap.size + 1, 0, none⟩ = some (.slice none 0 0) := (K2.out.cell_ 0).trans (by simp)
  have y1 : x4.cell? ⟨w.heap.size + 1, 1, none⟩ = some (.slice none 0 0) := (K2.out.cell_ 1).trans (by simp)
  have y2 : x4.cell? ⟨w.heap.size + 1, 2, none⟩ = some (.slice none 0 0) := (K2.out.cell_ 2).trans (by simp)
  have g0 := K2.out.frozen_ 0
  have g1 := K2.out.frozen_ 1
  have g2 := K2.out.frozen_ 2
  go_wp2_with fail
  refine bodyPost_ret (v := .tuple #[.agg #[.slice none 0 0, .slice none 0 0, .slice none 0 0], .int .i64 0, .int .i64 z]) (by simp [results, Try.results17, go_sem, y0, y1, y2]) rfl ?_
  exact ⟨none, 0, none, 0, none, 0, rfl, inMem_none _, NewL.none_ _, ((HB4.out.setCell (p := ⟨w.heap.size + 1, 0, none⟩) (by simp) _).setCell (p := ⟨w.heap.size + 1, 1, none⟩) (by simp) _).setCell (p := ⟨w.heap.size + 1, 2, none⟩) (by simp) _⟩

set_option maxRecDepth 100000 in
set_option maxHeartbeats 4000000 in
theorem RDirect_ok (A1 A2 A3 : Option Addr) (c1 c2 c3 : Nat) (xs ys : List Int) (rs : List Bool) (w : World) (h : InMem w A1 A2 A3 xs ys rs) {f : Int} (hl : lastV xs ys rs = (f, 0)) :
    Calls Try.prog 17 #[.agg #[.slice A1 xs.length c1, .slice A2 ys.length c2, .slice A3 rs.length c3]] w (LPost3 (dirS xs ys rs) (dirF xs ys rs) w) := by
  obtain ⟨us, hus⟩ : ∃ l, wo f xs = l := ⟨_, rfl⟩
  obtain ⟨vs, hvs⟩ : ∃ l, wo f ys = l := ⟨_, rfl⟩
  obtain ⟨ss, hss⟩ : ∃ l, rs.set f.toNat false = l := ⟨_, rfl⟩
  have HE : Hid (dirS xs ys rs = ⟨us, vs, ss, 0⟩ ∧ dirF xs ys rs = f) := ⟨by unfold dirS; rw [hl, if_neg (by simp), hus, hvs, hss], by unfold dirF; rw [hl, if_neg (by simp)]⟩
  have HR := Lib.hid (last_rem hl)
  rw [hus, hvs, hss] at HR
  rw [HE.out.1, HE.out.2]
  have HM := Lib.hid h; have HL := Lib.hid hl
  clear h hl hus hvs hss
  obtain ⟨X, hX⟩ : ∃ X, (w.alloc (.cells #[.slice A1 xs.length c1, .slice A2 ys.length c2, .slice A3 rs.length c3] 25)).alloc (.cells #[.slice none 0 0, .slice none 0 0, .slice none 0 0] 25) = X := ⟨_, rfl⟩
  have k1 : Blk X w.heap.size 25 #[.slice A1 xs.length c1, .slice A2 ys.length c2, .slice A3 rs.length c3] := by rw [← hX]; exact (Blk.new_ rfl rfl).alloc_ _
  have k2 : Blk X (w.heap.size + 1) 25 #[.slice none 0 0, .slice none 0 0, .slice none 0 0] := by rw [← hX]; exact Blk.new_ (by simp) rfl
  have HBX : Hid (Below w.heap.size w X) := by show Below _ _ _; rw [← hX]; exact ((Below.refl _ _).alloc (Nat.le_refl _) _).alloc (by simp) _
  have q0 : X.cell? ⟨w.heap.size, 0, none⟩ = some (.slice A1 xs.length c1) := (k1.cell_ 0).trans (by simp)
  have q1 : X.cell? ⟨w.heap.size, 1, none⟩ = some (.slice A2 ys.length c2) := (k1.cell_ 1).trans (by simp)
  have q2 : X.cell? ⟨w.heap.size, 2, none⟩ = some (.slice A3 rs.length c3) := (k1.cell_ 2).trans (by simp)
  go_enter Try.func17, Try.ntmps17
  go_wp2_with fail
  (try rw [hX])
  refine (RLast_S A1 A2 A3 c1 c2 c3 xs ys rs _ (HM.out.ext HBX.out)).mono ?_
  rw [HL.out]
  rintro e x4 ⟨rfl, hx4⟩
  have HB4 := Lib.hid (HBX.out.trans (hx4.mono HBX.out.size))
  have K1 := Lib.hid (k1.below_ hx4 k1.lt)
  have K2 := Lib.hid (k2.below_ hx4 k2.lt)
  have zx4 := k2.lt
  have zx5 := hx4.size
  clear hx4 k1 k2 HBX q0 q1 q2 hX
  have q0 : x4.cell? ⟨w.heap.size, 0, none⟩ = some (.slice A1 xs.length c1) := (K1.out.cell_ 0).trans (by simp)
  have q1 : x4.cell? ⟨w.heap.size, 1, none⟩ = some (.slice A2 ys.length c2) := (K1.out.cell_ 1).trans (by simp)
  have q2 : x4.cell? ⟨w.heap.size, 2, none⟩ = some (.slice A3 rs.length c3) := (K1.out.cell_ 2).trans (by simp)
  go_wp2_with fail
  refine (RRemove_S A1 A2 A3 c1 c2 c3 xs ys rs _ (HM.out.ext HB4.out) f).mono ?_
  rw [HR.out]
  rintro e x5 ⟨B1, d1, B2, d2, B3, d3, rfl, hm5, hn5, hb5⟩
  dsimp only at hm5 hn5 ⊢
  have z45 := hb5.size
  have K25 := Lib.hid (K2.out.below_ hb5 K2.out.lt)
  have HM5 := Lib.hid hm5
  have HN7 : Hid (NewL (w.heap.size + 2) B1 B2 B3) := hn5.mono (by omega)
  have HB5 := Lib.hid (HB4.out.trans (hb5.mono HB4.out.size))
  have kl5 := K25.out.lt
  clear hm5 hn5 hb5 q0 q1 q2 K1 HB4
  have y0 : x5.cell? ⟨w.heap.size + 1, 0, none⟩ = some (.slice none 0 0) := (K25.out.cell_ 0).trans (by simp)
  have y1 : x5.cell? ⟨w.heap.size + 1, 1, none⟩ = some (.slice none 0 0) := (K25.out.cell_ 1).trans (by simp)
  have y2 : x5.cell? ⟨w.heap.size + 1, 2, none⟩ = some (.slice none 0 0) := (K25.out.cell_ 2).trans (by simp)
  have g0 := K25.out.frozen_ 0
  have g1 := K25.out.frozen_ 1
  have g2 := K25.out.frozen_ 2
  have nb1 : w.heap.size + 1 ≠ x5.heap.size := by omega
  have nb2 : x5.heap.size ≠ w.heap.size + 1 := by omega
  go_wp2_with fail
  clear y0 y1 y2 g0 g1 g2
  obtain ⟨U, hU⟩ : ∃ U, (((x5.setCell ⟨w.heap.size + 1, 0, none⟩ (.slice B1 us.length d1)).setCell ⟨w.heap.size + 1, 1, none⟩ (.slice B2 vs.length d2)).setCell ⟨w.heap.size + 1, 2, none⟩ (.slice B3 ss.length d3)).alloc (.cells #[.slice B1 us.length d1, .slice B2 vs.length d2, .slice B3 ss.length d3] 25) = U := ⟨_, rfl⟩
  have KU : Blk U (w.heap.size + 1) 25 #[.slice B1 us.length d1, .slice B2 vs.length d2, .slice B3 ss.length d3] := by
    rw [← hU]
    simpa using (((K25.out.set_ 0 (.slice B1 us.length d1)).set_ 1 (.slice B2 vs.length d2)).set_ 2 (.slice B3 ss.length d3)).alloc_ _
  have MU : InMem U B1 B2 B3 us vs ss := by
    rw [← hU]
    exact (((HM5.out.far_ HN7.out (show w.heap.size + 1 < w.heap.size + 2 by omega) 0 (.slice B1 us.length d1)).far_ HN7.out (show w.heap.size + 1 < w.heap.size + 2 by omega) 1 (.slice B2 vs.length d2)).far_ HN7.out (show w.heap.size + 1 < w.heap.size + 2 by omega) 2 (.slice B3 ss.length d3)).ext ((Below.refl _ _).alloc (Nat.le_refl _) _)
  have BU : Below w.heap.size w U := by
    rw [← hU]
    exact (((HB5.out.setCell (p := ⟨w.heap.size + 1, 0, none⟩) (by simp) _).setCell (p := ⟨w.heap.size + 1, 1, none⟩) (by simp) _).setCell (p := ⟨w.heap.size + 1, 2, none⟩) (by simp) _).alloc (by simp [World.setCell]; omega) _
  (try rw [hU])
  have u0 : U.cell? ⟨w.heap.size + 1, 0, none⟩ = some (.slice B1 us.length d1) := (KU.cell_ 0).trans (by simp)
  have u1 : U.cell? ⟨w.heap.size + 1, 1, none⟩ = some (.slice B2 vs.length d2) := (KU.cell_ 1).trans (by simp)
  have u2 : U.cell? ⟨w.heap.size + 1, 2, none⟩ = some (.slice B3 ss.length d3) := (KU.cell_ 2).trans (by simp)
  clear hU KU
  refine bodyPost_ret (v := .tuple #[.agg #[.slice B1 us.length d1, .slice B2 vs.length d2, .slice B3 ss.length d3], .int .i64 f, .int .i64 0]) (by simp [results, Try.results17, go_sem, u0, u1, u2]) rfl ?_
  exact ⟨B1, d1, B2, d2, B3, d3, rfl, MU, HN7.out.mono (by omega), BU⟩

theorem RDirect_any (A1 A2 A3 : Option Addr) (c1 c2 c3 : Nat) (xs ys : List Int) (rs : List Bool) (w : World) (h : InMem w A1 A2 A3 xs ys rs) :
    Calls Try.prog 17 #[.agg #[.slice A1 xs.length c1, .slice A2 ys.length c2, .slice A3 rs.length c3]] w (LPost3 (dirS xs ys rs) (dirF xs ys rs) w) := by
  obtain ⟨⟨f, z⟩, hl⟩ : ∃ R, lastV xs ys rs = R := ⟨_, rfl⟩
  by_cases h0 : z = 0
  · subst h0; exact RDirect_ok A1 A2 A3 c1 c2 c3 xs ys rs w h hl
  · exact RDirect_bad A1 A2 A3 c1 c2 c3 xs ys rs w h hl h0
end Go.Proofs.Ytiobbdfkimpfbaa
