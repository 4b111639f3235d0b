/- ScanSteps: what a background step and a direct step make of lists, or which errors; the lists are not changed. Written by gen_lss.py. -/
import Derived.Test.YtiobbdfkimpfbaaScS
import Derived.Test.YtiobbdfkimpfbaaCloseL
namespace Go.Proofs.Ytiobbdfkimpfbaa
open Go.RowKit Go.Maps
open Go.ChangeShapes Go.WideShapes Go.ChangeAt Go.Joins

theorem step_small (T : Int) (xs ys : List Int) (rs : List Bool) : (fullS T xs ys rs).xs.length ≤ xs.length + 1 ∧ (fullS T xs ys rs).ys.length ≤ ys.length + 1 ∧ (fullS T xs ys rs).rs.length ≤ rs.length := by
  have e1 : (xs.eraseIdx (xs.length - 1)).length ≤ xs.length := by rw [List.length_eraseIdx]; split <;> omega
  have e2 : (ys.eraseIdx (ys.length - 1)).length ≤ ys.length := by rw [List.length_eraseIdx]; split <;> omega
  unfold fullS
  split
  · exact ⟨Nat.zero_le _, Nat.zero_le _, Nat.zero_le _⟩
  · dsimp only
    unfold stepS
    repeat' split
    all_goals
      dsimp only
      try simp only [dX, dY, pX, pY, List.length_cons, List.length_set]
      omega
theorem dir_small (xs ys : List Int) (rs : List Bool) : (dirS xs ys rs).xs.length ≤ xs.length ∧ (dirS xs ys rs).ys.length ≤ ys.length ∧ (dirS xs ys rs).rs.length ≤ rs.length := by
  unfold dirS
  split
  · exact ⟨Nat.zero_le _, Nat.zero_le _, Nat.zero_le _⟩
  · exact ⟨List.length_filter_le _ _, List.length_filter_le _ _, by simp⟩

set_option maxRecDepth 100000 in
set_option maxHeartbeats 4000000 in
theorem scanSteps_walk (A1 A2 A3 : Option Addr) (c1 c2 c3 : Nat) (xs ys : List Int) (rs : List Bool) (T : Int) (w : World) (sa : Sl w (.int .i64) A1 xs) (si : Sl w (.int .i64) A2 ys) (sr : Sl w .bool A3 rs)
    (wa : ∀ x ∈ xs, (Lit.int .i64 x).wf = true) (wi : ∀ x ∈ ys, (Lit.int .i64 x).wf = true) (la0 : xs.length ≤ maxLen) (li0 : ys.length ≤ maxLen) (lr0 : rs.length ≤ maxLen) (_wt : (Lit.int .i64 T).wf = true) :
    Calls Try.prog 3 #[.agg #[.slice A1 xs.length c1, .slice A2 ys.length c2, .slice A3 rs.length c3], .int .i64 T] w fun e w' => e = .returned (.bool true) ∧ Below w.heap.size w w' := by
  by_cases hl : 40 < xs.length ∨ 40 < ys.length ∨ 260 < rs.length
  · have hdec := decide_eq_true hl
    have HDEC := Lib.hid hdec
    clear hl hdec sa si sr wa wi la0 li0 lr0
    go_enter Try.func3, Try.ntmps3
    go_wp2_with fail
    refine (large_any A1 A2 A3 c1 c2 c3 xs.length ys.length rs.length _).mono ?_
    rw [HDEC.out]
    rintro e x1 ⟨rfl, h1⟩
    go_wp2_with fail
    refine (awake_any _).mono ?_
    rintro e x2 ⟨rfl, h2⟩
    go_wp2_with fail
    go_ret
    exact ⟨rfl, (by repeat' (first | with_reducible exact Below.refl _ _ | with_reducible assumption | with_reducible apply Below.drew | with_reducible apply below_drewN | with_reducible apply Below.alloc | with_reducible apply Below.setCell | (with_reducible refine Below.trans ?_ (Below.mono (by assumption) ?_)) | (simp; done) | (simp; omega) | omega | with_reducible apply le_size_alloc | with_reducible apply le_size_drewN | with_reducible apply le_size_drew | with_reducible apply le_size_setCell | refine Nat.le_trans ?_ (Below.size (by assumption))))⟩
  · have hnl := hl
    have hm : InMem w A1 A2 A3 xs ys rs := ⟨sa, si, sr, by omega, by omega, by omega, wa, wi⟩
    have HM := Lib.hid hm
    have l1 : xs.length ≤ 40 := by omega
    have l2 : ys.length ≤ 40 := by omega
    have l3 : rs.length ≤ 260 := by omega
    obtain ⟨⟨what, frame, us, vs, ss, ze⟩, hS⟩ : ∃ R : SR, fullS T xs ys rs = R := ⟨_, rfl⟩
    obtain ⟨⟨ds, dt, du, zd⟩, hD⟩ : ∃ R : LR, dirS xs ys rs = R := ⟨_, rfl⟩
    obtain ⟨df, hDF⟩ : ∃ f, dirF xs ys rs = f := ⟨_, rfl⟩
    have s1 := step_small T xs ys rs
    have s2 := dir_small xs ys rs
    rw [hS] at s1
    rw [hD] at s2
    dsimp only at s1 s2
    have hu1 : us.length ≤ 1000 := by omega
    have hu2 : vs.length ≤ 1000 := by omega
    have hu3 : ss.length ≤ 1000 := by omega
    have hd1 : ds.length ≤ 1000 := by omega
    have hd2 : dt.length ≤ 1000 := by omega
    have hd3 : du.length ≤ 1000 := by omega
    have HS := Lib.hid hS; have HD := Lib.hid hD; have HDF := Lib.hid hDF
    clear hl sa si sr wa wi la0 li0 lr0 hm s1 s2 hS hD hDF
    go_enter Try.func3, Try.ntmps3
    have HB0 : Hid (Below w.heap.size w w) := Below.refl _ _
    go_wp2_with fail
    obtain ⟨y0, hy0⟩ : ∃ Y, w.alloc (.cells #[.slice A1 xs.length c1, .slice A2 ys.length c2, .slice A3 rs.length c3] 25) = Y := ⟨_, rfl⟩
    have by0 : Below w.heap.size w y0 := by rw [← hy0]; exact (Below.refl _ _).alloc (Nat.le_refl _) _
    have K0 : Hid (Blk y0 w.heap.size 25 #[.slice A1 xs.length c1, .slice A2 ys.length c2, .slice A3 rs.length c3]) := by show Blk _ _ _ _; rw [← hy0]; exact Blk.new_ rfl rfl
    have zzy0 : w.heap.size < y0.heap.size := by rw [← hy0]; simp
    (try rw [hy0])
    clear hy0
    have ML_y0 : Hid (InMem y0 A1 A2 A3 xs ys rs) := HM.out.ext by0
    clear HM
    have HB_y0 : Hid (Below w.heap.size w y0) := HB0.out.trans (by0.mono HB0.out.size)
    clear HB0
    refine (large_any A1 A2 A3 c1 c2 c3 xs.length ys.length rs.length _).mono ?_
    rw [decide_eq_false hnl]
    rintro e x1 ⟨rfl, h1⟩
    have ML_x1 : Hid (InMem x1 A1 A2 A3 xs ys rs) := ML_y0.out.ext h1
    clear ML_y0
    have K0_x1 : Hid (Blk x1 w.heap.size 25 #[.slice A1 xs.length c1, .slice A2 ys.length c2, .slice A3 rs.length c3]) := K0.out.below_ h1 K0.out.lt
    clear K0
    have HB_x1 : Hid (Below w.heap.size w x1) := HB_y0.out.trans (h1.mono HB_y0.out.size)
    clear HB_y0
    have q0 : x1.cell? ⟨w.heap.size, 0, none⟩ = some (.slice A1 xs.length c1) := (K0_x1.out.cell_ 0).trans (by simp)
    have q1 : x1.cell? ⟨w.heap.size, 1, none⟩ = some (.slice A2 ys.length c2) := (K0_x1.out.cell_ 1).trans (by simp)
    have q2 : x1.cell? ⟨w.heap.size, 2, none⟩ = some (.slice A3 rs.length c3) := (K0_x1.out.cell_ 2).trans (by simp)
    go_wp2_with fail
    refine (OwnLists_any A1 A2 A3 c1 c2 c3 xs ys rs _ ML_x1.out.a ML_x1.out.i ML_x1.out.r (by omega) (by omega) (by omega)).mono ?_
    rintro e x2 ⟨E1, e1, E2, e2, E3, e3, rfl, ho, h2⟩
    have MEx : Hid (InMem x2 E1 E2 E3 xs ys rs) := ho.mem (by omega) (by omega) (by omega) ML_x1.out.wa ML_x1.out.wi
    clear ho
    clear q0 q1 q2
    have ML_x2 : Hid (InMem x2 A1 A2 A3 xs ys rs) := ML_x1.out.ext h2
    clear ML_x1
    have K0_x2 : Hid (Blk x2 w.heap.size 25 #[.slice A1 xs.length c1, .slice A2 ys.length c2, .slice A3 rs.length c3]) := K0_x1.out.below_ h2 K0_x1.out.lt
    clear K0_x1
    have HB_x2 : Hid (Below w.heap.size w x2) := HB_x1.out.trans (h2.mono HB_x1.out.size)
    clear HB_x1
    have zw2 : w.heap.size < x2.heap.size := K0_x2.out.lt
    go_wp2_with fail
    obtain ⟨y3, hy3⟩ : ∃ Y, x2.alloc (.cells #[.slice E1 xs.length e1, .slice E2 ys.length e2, .slice E3 rs.length e3] 25) = Y := ⟨_, rfl⟩
    have by3 : Below x2.heap.size x2 y3 := by rw [← hy3]; exact (Below.refl _ _).alloc (Nat.le_refl _) _
    have K5 : Hid (Blk y3 x2.heap.size 25 #[.slice E1 xs.length e1, .slice E2 ys.length e2, .slice E3 rs.length e3]) := by show Blk _ _ _ _; rw [← hy3]; exact Blk.new_ rfl rfl
    have zzy3 : x2.heap.size < y3.heap.size := by rw [← hy3]; simp
    (try rw [hy3])
    clear hy3
    have ML_y3 : Hid (InMem y3 A1 A2 A3 xs ys rs) := ML_x2.out.ext by3
    clear ML_x2
    have K0_y3 : Hid (Blk y3 w.heap.size 25 #[.slice A1 xs.length c1, .slice A2 ys.length c2, .slice A3 rs.length c3]) := K0_x2.out.below_ by3 K0_x2.out.lt
    clear K0_x2
    have ME_y3 : Hid (InMem y3 E1 E2 E3 xs ys rs) := MEx.out.ext by3
    clear MEx
    have HB_y3 : Hid (Below w.heap.size w y3) := HB_x2.out.trans (by3.mono HB_x2.out.size)
    clear HB_x2
    have p0 : y3.cell? ⟨x2.heap.size, 0, none⟩ = some (.slice E1 xs.length e1) := (K5.out.cell_ 0).trans (by simp)
    have p1 : y3.cell? ⟨x2.heap.size, 1, none⟩ = some (.slice E2 ys.length e2) := (K5.out.cell_ 1).trans (by simp)
    have p2 : y3.cell? ⟨x2.heap.size, 2, none⟩ = some (.slice E3 rs.length e3) := (K5.out.cell_ 2).trans (by simp)
    go_wp2_with fail
    refine (Step_any E1 E2 E3 e1 e2 e3 xs ys rs T _ ME_y3.out).mono ?_
    rw [HS.out]
    rintro e x4 ⟨U1, U2, U3, u1, u2, u3, rfl, mu, nu, h4⟩
    dsimp only at mu nu ⊢
    have MUx := Lib.hid mu
    clear mu nu
    clear p0 p1 p2
    have ML_x4 : Hid (InMem x4 A1 A2 A3 xs ys rs) := ML_y3.out.ext h4
    clear ML_y3
    have K0_x4 : Hid (Blk x4 w.heap.size 25 #[.slice A1 xs.length c1, .slice A2 ys.length c2, .slice A3 rs.length c3]) := K0_y3.out.below_ h4 K0_y3.out.lt
    clear K0_y3
    have ME_x4 : Hid (InMem x4 E1 E2 E3 xs ys rs) := ME_y3.out.ext h4
    clear ME_y3
    have K5_x4 : Hid (Blk x4 x2.heap.size 25 #[.slice E1 xs.length e1, .slice E2 ys.length e2, .slice E3 rs.length e3]) := K5.out.below_ h4 K5.out.lt
    clear K5
    have HB_x4 : Hid (Below w.heap.size w x4) := HB_y3.out.trans (h4.mono HB_y3.out.size)
    clear HB_y3
    have q0 : x4.cell? ⟨w.heap.size, 0, none⟩ = some (.slice A1 xs.length c1) := (K0_x4.out.cell_ 0).trans (by simp)
    have q1 : x4.cell? ⟨w.heap.size, 1, none⟩ = some (.slice A2 ys.length c2) := (K0_x4.out.cell_ 1).trans (by simp)
    have q2 : x4.cell? ⟨w.heap.size, 2, none⟩ = some (.slice A3 rs.length c3) := (K0_x4.out.cell_ 2).trans (by simp)
    have lt0 := K0_x4.out.lt
    have ord1 := K5_x4.out.lt
    go_wp2_with fail
    obtain ⟨y5, hy5⟩ : ∃ Y, x4.alloc (.cells #[.slice U1 us.length u1, .slice U2 vs.length u2, .slice U3 ss.length u3] 25) = Y := ⟨_, rfl⟩
    have by5 : Below x4.heap.size x4 y5 := by rw [← hy5]; exact (Below.refl _ _).alloc (Nat.le_refl _) _
    have K6 : Hid (Blk y5 x4.heap.size 25 #[.slice U1 us.length u1, .slice U2 vs.length u2, .slice U3 ss.length u3]) := by show Blk _ _ _ _; rw [← hy5]; exact Blk.new_ rfl rfl
    have zzy5 : x4.heap.size < y5.heap.size := by rw [← hy5]; simp
    (try rw [hy5])
    clear hy5
    clear q0 q1 q2
    clear lt0
    have N6L : NeB x4.heap.size A1 A2 A3 xs ys rs := ML_x4.out.neZ fun k e => by omega
    have N6E : NeB x4.heap.size E1 E2 E3 xs ys rs := ME_x4.out.neZ fun k e => by omega
    have ML_y5 : Hid (InMem y5 A1 A2 A3 xs ys rs) := ML_x4.out.ext by5
    clear ML_x4
    have K0_y5 : Hid (Blk y5 w.heap.size 25 #[.slice A1 xs.length c1, .slice A2 ys.length c2, .slice A3 rs.length c3]) := K0_x4.out.below_ by5 K0_x4.out.lt
    clear K0_x4
    have ME_y5 : Hid (InMem y5 E1 E2 E3 xs ys rs) := ME_x4.out.ext by5
    clear ME_x4
    have K5_y5 : Hid (Blk y5 x2.heap.size 25 #[.slice E1 xs.length e1, .slice E2 ys.length e2, .slice E3 rs.length e3]) := K5_x4.out.below_ by5 K5_x4.out.lt
    clear K5_x4
    have MU_y5 : Hid (InMem y5 U1 U2 U3 us vs ss) := MUx.out.ext by5
    clear MUx
    have HB_y5 : Hid (Below w.heap.size w y5) := HB_x4.out.trans (by5.mono HB_x4.out.size)
    clear HB_x4
    refine (RStep_any A1 A2 A3 c1 c2 c3 xs ys rs T _ ML_y5.out).mono ?_
    rw [HS.out]
    rintro e x6 ⟨V1, V2, V3, v1, v2, v3, rfl, mv, nv, h6⟩
    dsimp only at mv nv ⊢
    have MVx := Lib.hid mv
    clear mv nv
    have ML_x6 : Hid (InMem x6 A1 A2 A3 xs ys rs) := ML_y5.out.ext h6
    clear ML_y5
    have K0_x6 : Hid (Blk x6 w.heap.size 25 #[.slice A1 xs.length c1, .slice A2 ys.length c2, .slice A3 rs.length c3]) := K0_y5.out.below_ h6 K0_y5.out.lt
    clear K0_y5
    have ME_x6 : Hid (InMem x6 E1 E2 E3 xs ys rs) := ME_y5.out.ext h6
    clear ME_y5
    have K5_x6 : Hid (Blk x6 x2.heap.size 25 #[.slice E1 xs.length e1, .slice E2 ys.length e2, .slice E3 rs.length e3]) := K5_y5.out.below_ h6 K5_y5.out.lt
    clear K5_y5
    have MU_x6 : Hid (InMem x6 U1 U2 U3 us vs ss) := MU_y5.out.ext h6
    clear MU_y5
    have K6_x6 : Hid (Blk x6 x4.heap.size 25 #[.slice U1 us.length u1, .slice U2 vs.length u2, .slice U3 ss.length u3]) := K6.out.below_ h6 K6.out.lt
    clear K6
    have HB_x6 : Hid (Below w.heap.size w x6) := HB_y5.out.trans (h6.mono HB_y5.out.size)
    clear HB_y5
    have p0 : x6.cell? ⟨x4.heap.size, 0, none⟩ = some (.slice U1 us.length u1) := (K6_x6.out.cell_ 0).trans (by simp)
    have p1 : x6.cell? ⟨x4.heap.size, 1, none⟩ = some (.slice U2 vs.length u2) := (K6_x6.out.cell_ 1).trans (by simp)
    have p2 : x6.cell? ⟨x4.heap.size, 2, none⟩ = some (.slice U3 ss.length u3) := (K6_x6.out.cell_ 2).trans (by simp)
    have lt0 := K6_x6.out.lt
    have ord2 := K6_x6.out.lt
    go_wp2_with fail
    obtain ⟨y7, hy7⟩ : ∃ Y, x6.alloc (.cells #[.slice V1 us.length v1, .slice V2 vs.length v2, .slice V3 ss.length v3] 25) = Y := ⟨_, rfl⟩
    have by7 : Below x6.heap.size x6 y7 := by rw [← hy7]; exact (Below.refl _ _).alloc (Nat.le_refl _) _
    have K10 : Hid (Blk y7 x6.heap.size 25 #[.slice V1 us.length v1, .slice V2 vs.length v2, .slice V3 ss.length v3]) := by show Blk _ _ _ _; rw [← hy7]; exact Blk.new_ rfl rfl
    have zzy7 : x6.heap.size < y7.heap.size := by rw [← hy7]; simp
    (try rw [hy7])
    clear hy7
    clear p0 p1 p2
    clear lt0
    have N10L : NeB x6.heap.size A1 A2 A3 xs ys rs := ML_x6.out.neZ fun k e => by omega
    have N10E : NeB x6.heap.size E1 E2 E3 xs ys rs := ME_x6.out.neZ fun k e => by omega
    have ML_y7 : Hid (InMem y7 A1 A2 A3 xs ys rs) := ML_x6.out.ext by7
    clear ML_x6
    have K0_y7 : Hid (Blk y7 w.heap.size 25 #[.slice A1 xs.length c1, .slice A2 ys.length c2, .slice A3 rs.length c3]) := K0_x6.out.below_ by7 K0_x6.out.lt
    clear K0_x6
    have ME_y7 : Hid (InMem y7 E1 E2 E3 xs ys rs) := ME_x6.out.ext by7
    clear ME_x6
    have K5_y7 : Hid (Blk y7 x2.heap.size 25 #[.slice E1 xs.length e1, .slice E2 ys.length e2, .slice E3 rs.length e3]) := K5_x6.out.below_ by7 K5_x6.out.lt
    clear K5_x6
    have MU_y7 : Hid (InMem y7 U1 U2 U3 us vs ss) := MU_x6.out.ext by7
    clear MU_x6
    have K6_y7 : Hid (Blk y7 x4.heap.size 25 #[.slice U1 us.length u1, .slice U2 vs.length u2, .slice U3 ss.length u3]) := K6_x6.out.below_ by7 K6_x6.out.lt
    clear K6_x6
    have MV_y7 : Hid (InMem y7 V1 V2 V3 us vs ss) := MVx.out.ext by7
    clear MVx
    have HB_y7 : Hid (Below w.heap.size w y7) := HB_x6.out.trans (by7.mono HB_x6.out.size)
    clear HB_x6
    refine (same_lists U1 U2 U3 V1 V2 V3 u1 u2 u3 v1 v2 v3 us vs ss _ MU_y7.out MV_y7.out hu1 hu2 hu3).mono ?_
    rintro e x8 ⟨rfl, h8⟩
    have ML_x8 : Hid (InMem x8 A1 A2 A3 xs ys rs) := ML_y7.out.ext h8
    clear ML_y7
    have K0_x8 : Hid (Blk x8 w.heap.size 25 #[.slice A1 xs.length c1, .slice A2 ys.length c2, .slice A3 rs.length c3]) := K0_y7.out.below_ h8 K0_y7.out.lt
    clear K0_y7
    have ME_x8 : Hid (InMem x8 E1 E2 E3 xs ys rs) := ME_y7.out.ext h8
    clear ME_y7
    have K5_x8 : Hid (Blk x8 x2.heap.size 25 #[.slice E1 xs.length e1, .slice E2 ys.length e2, .slice E3 rs.length e3]) := K5_y7.out.below_ h8 K5_y7.out.lt
    clear K5_y7
    have MU_x8 : Hid (InMem x8 U1 U2 U3 us vs ss) := MU_y7.out.ext h8
    clear MU_y7
    have K6_x8 : Hid (Blk x8 x4.heap.size 25 #[.slice U1 us.length u1, .slice U2 vs.length u2, .slice U3 ss.length u3]) := K6_y7.out.below_ h8 K6_y7.out.lt
    clear K6_y7
    have MV_x8 : Hid (InMem x8 V1 V2 V3 us vs ss) := MV_y7.out.ext h8
    clear MV_y7
    have K10_x8 : Hid (Blk x8 x6.heap.size 25 #[.slice V1 us.length v1, .slice V2 vs.length v2, .slice V3 ss.length v3]) := K10.out.below_ h8 K10.out.lt
    clear K10
    have HB_x8 : Hid (Below w.heap.size w x8) := HB_y7.out.trans (h8.mono HB_y7.out.size)
    clear HB_y7
    clear MU_x8
    clear MV_x8
    have p0 : x8.cell? ⟨x2.heap.size, 0, none⟩ = some (.slice E1 xs.length e1) := (K5_x8.out.cell_ 0).trans (by simp)
    have p1 : x8.cell? ⟨x2.heap.size, 1, none⟩ = some (.slice E2 ys.length e2) := (K5_x8.out.cell_ 1).trans (by simp)
    have p2 : x8.cell? ⟨x2.heap.size, 2, none⟩ = some (.slice E3 rs.length e3) := (K5_x8.out.cell_ 2).trans (by simp)
    go_wp2_with fail
    refine (Direct_any E1 E2 E3 e1 e2 e3 xs ys rs _ ME_x8.out).mono ?_
    rw [HD.out, HDF.out]
    rintro e x9 ⟨D1, d1, D2, d2, D3, d3, rfl, md, nd, h9⟩
    dsimp only at md nd ⊢
    have MDx := Lib.hid md
    have zz8 := K10_x8.out.lt
    have zz6 := K6_x8.out.lt
    have N6D : NeB x4.heap.size D1 D2 D3 ds dt du := nd.neB (by omega) _ _ _
    have N10D : NeB x6.heap.size D1 D2 D3 ds dt du := nd.neB (by omega) _ _ _
    clear md nd
    clear p0 p1 p2
    have ML_x9 : Hid (InMem x9 A1 A2 A3 xs ys rs) := ML_x8.out.ext h9
    clear ML_x8
    have K0_x9 : Hid (Blk x9 w.heap.size 25 #[.slice A1 xs.length c1, .slice A2 ys.length c2, .slice A3 rs.length c3]) := K0_x8.out.below_ h9 K0_x8.out.lt
    clear K0_x8
    have ME_x9 : Hid (InMem x9 E1 E2 E3 xs ys rs) := ME_x8.out.ext h9
    clear ME_x8
    have K5_x9 : Hid (Blk x9 x2.heap.size 25 #[.slice E1 xs.length e1, .slice E2 ys.length e2, .slice E3 rs.length e3]) := K5_x8.out.below_ h9 K5_x8.out.lt
    clear K5_x8
    have K6_x9 : Hid (Blk x9 x4.heap.size 25 #[.slice U1 us.length u1, .slice U2 vs.length u2, .slice U3 ss.length u3]) := K6_x8.out.below_ h9 K6_x8.out.lt
    clear K6_x8
    have K10_x9 : Hid (Blk x9 x6.heap.size 25 #[.slice V1 us.length v1, .slice V2 vs.length v2, .slice V3 ss.length v3]) := K10_x8.out.below_ h9 K10_x8.out.lt
    clear K10_x8
    have HB_x9 : Hid (Below w.heap.size w x9) := HB_x8.out.trans (h9.mono HB_x8.out.size)
    clear HB_x8
    have z0 := K5_x9.out.lt
    have ord3 := K10_x9.out.lt
    have p0 : x9.cell? ⟨x4.heap.size, 0, none⟩ = some (.slice U1 us.length u1) := (K6_x9.out.cell_ 0).trans (by simp)
    have p1 : x9.cell? ⟨x4.heap.size, 1, none⟩ = some (.slice U2 vs.length u2) := (K6_x9.out.cell_ 1).trans (by simp)
    have p2 : x9.cell? ⟨x4.heap.size, 2, none⟩ = some (.slice U3 ss.length u3) := (K6_x9.out.cell_ 2).trans (by simp)
    have pf0 := K6_x9.out.frozen_ 0
    have pf1 := K6_x9.out.frozen_ 1
    have pf2 := K6_x9.out.frozen_ 2
    have q0 : x9.cell? ⟨w.heap.size, 0, none⟩ = some (.slice A1 xs.length c1) := (K0_x9.out.cell_ 0).trans (by simp)
    have q1 : x9.cell? ⟨w.heap.size, 1, none⟩ = some (.slice A2 ys.length c2) := (K0_x9.out.cell_ 1).trans (by simp)
    have q2 : x9.cell? ⟨w.heap.size, 2, none⟩ = some (.slice A3 rs.length c3) := (K0_x9.out.cell_ 2).trans (by simp)
    go_upto_region 9 with fail
    clear p0 p1 p2
    clear pf0 pf1 pf2 q0 q1 q2
    obtain ⟨y10, hy10⟩ : ∃ Y, (((x9.setCell ⟨x4.heap.size, 0, none⟩ (.slice D1 ds.length d1)).setCell ⟨x4.heap.size, 1, none⟩ (.slice D2 dt.length d2)).setCell ⟨x4.heap.size, 2, none⟩ (.slice D3 du.length d3)) = Y := ⟨_, rfl⟩
    have ay10 : Aside (fun k => k = x4.heap.size) x9 y10 := by rw [← hy10]; exact (((Aside.refl (fun k => k = x4.heap.size) x9).setCell (p := ⟨x4.heap.size, 0, none⟩) (.inr rfl) _).setCell (p := ⟨x4.heap.size, 1, none⟩) (.inr rfl) _).setCell (p := ⟨x4.heap.size, 2, none⟩) (.inr rfl) _
    have ML_y10 : Hid (InMem y10 A1 A2 A3 xs ys rs) := ML_x9.out.aside ay10 N6L
    clear ML_x9
    have K0_y10 : Hid (Blk y10 w.heap.size 25 #[.slice A1 xs.length c1, .slice A2 ys.length c2, .slice A3 rs.length c3]) := ay10.blk K0_x9.out (by omega)
    clear K0_x9
    have ME_y10 : Hid (InMem y10 E1 E2 E3 xs ys rs) := ME_x9.out.aside ay10 N6E
    clear ME_x9
    have K5_y10 : Hid (Blk y10 x2.heap.size 25 #[.slice E1 xs.length e1, .slice E2 ys.length e2, .slice E3 rs.length e3]) := ay10.blk K5_x9.out (by omega)
    clear K5_x9
    have K6_y10 : Hid (Blk y10 x4.heap.size 25 #[.slice D1 ds.length d1, .slice D2 dt.length d2, .slice D3 du.length d3]) := by show Blk _ _ _ _; rw [← hy10]; simpa using (((K6_x9.out.set_ 0 (.slice D1 ds.length d1)).set_ 1 (.slice D2 dt.length d2)).set_ 2 (.slice D3 du.length d3))
    clear K6_x9
    have K10_y10 : Hid (Blk y10 x6.heap.size 25 #[.slice V1 us.length v1, .slice V2 vs.length v2, .slice V3 ss.length v3]) := ay10.blk K10_x9.out (by omega)
    clear K10_x9
    have MD_y10 : Hid (InMem y10 D1 D2 D3 ds dt du) := MDx.out.aside ay10 N6D
    clear MDx
    have HB_y10 : Hid (Below w.heap.size w y10) := HB_x9.out.trans (ay10.below (by have := HB_x9.out.size; omega) fun k hk e => by omega)
    clear HB_x9
    have sy10 := ay10.size
    (try rw [hy10])
    clear hy10 ay10
    have q0 : y10.cell? ⟨w.heap.size, 0, none⟩ = some (.slice A1 xs.length c1) := (K0_y10.out.cell_ 0).trans (by simp)
    have q1 : y10.cell? ⟨w.heap.size, 1, none⟩ = some (.slice A2 ys.length c2) := (K0_y10.out.cell_ 1).trans (by simp)
    have q2 : y10.cell? ⟨w.heap.size, 2, none⟩ = some (.slice A3 rs.length c3) := (K0_y10.out.cell_ 2).trans (by simp)
    go_wp2_with fail
    refine (RDirect_any A1 A2 A3 c1 c2 c3 xs ys rs _ ML_y10.out).mono ?_
    rw [HD.out, HDF.out]
    rintro e x11 ⟨R1, r1, R2, r2, R3, r3, rfl, mr, nr, h11⟩
    dsimp only at mr nr ⊢
    have MRx := Lib.hid mr
    have N10R : NeB x6.heap.size R1 R2 R3 ds dt du := nr.neB (by omega) _ _ _
    clear mr nr
    clear q0 q1 q2
    have ML_x11 : Hid (InMem x11 A1 A2 A3 xs ys rs) := ML_y10.out.ext h11
    clear ML_y10
    have K0_x11 : Hid (Blk x11 w.heap.size 25 #[.slice A1 xs.length c1, .slice A2 ys.length c2, .slice A3 rs.length c3]) := K0_y10.out.below_ h11 K0_y10.out.lt
    clear K0_y10
    have ME_x11 : Hid (InMem x11 E1 E2 E3 xs ys rs) := ME_y10.out.ext h11
    clear ME_y10
    have K5_x11 : Hid (Blk x11 x2.heap.size 25 #[.slice E1 xs.length e1, .slice E2 ys.length e2, .slice E3 rs.length e3]) := K5_y10.out.below_ h11 K5_y10.out.lt
    clear K5_y10
    have K6_x11 : Hid (Blk x11 x4.heap.size 25 #[.slice D1 ds.length d1, .slice D2 dt.length d2, .slice D3 du.length d3]) := K6_y10.out.below_ h11 K6_y10.out.lt
    clear K6_y10
    have K10_x11 : Hid (Blk x11 x6.heap.size 25 #[.slice V1 us.length v1, .slice V2 vs.length v2, .slice V3 ss.length v3]) := K10_y10.out.below_ h11 K10_y10.out.lt
    clear K10_y10
    have MD_x11 : Hid (InMem x11 D1 D2 D3 ds dt du) := MD_y10.out.ext h11
    clear MD_y10
    have HB_x11 : Hid (Below w.heap.size w x11) := HB_y10.out.trans (h11.mono HB_y10.out.size)
    clear HB_y10
    have p0 : x11.cell? ⟨x6.heap.size, 0, none⟩ = some (.slice V1 us.length v1) := (K10_x11.out.cell_ 0).trans (by simp)
    have p1 : x11.cell? ⟨x6.heap.size, 1, none⟩ = some (.slice V2 vs.length v2) := (K10_x11.out.cell_ 1).trans (by simp)
    have p2 : x11.cell? ⟨x6.heap.size, 2, none⟩ = some (.slice V3 ss.length v3) := (K10_x11.out.cell_ 2).trans (by simp)
    have pf0 := K10_x11.out.frozen_ 0
    have pf1 := K10_x11.out.frozen_ 1
    have pf2 := K10_x11.out.frozen_ 2
    go_upto_region 10 with fail
    clear p0 p1 p2
    clear pf0 pf1 pf2
    obtain ⟨y12, hy12⟩ : ∃ Y, (((x11.setCell ⟨x6.heap.size, 0, none⟩ (.slice R1 ds.length r1)).setCell ⟨x6.heap.size, 1, none⟩ (.slice R2 dt.length r2)).setCell ⟨x6.heap.size, 2, none⟩ (.slice R3 du.length r3)) = Y := ⟨_, rfl⟩
    have ay12 : Aside (fun k => k = x6.heap.size) x11 y12 := by rw [← hy12]; exact (((Aside.refl (fun k => k = x6.heap.size) x11).setCell (p := ⟨x6.heap.size, 0, none⟩) (.inr rfl) _).setCell (p := ⟨x6.heap.size, 1, none⟩) (.inr rfl) _).setCell (p := ⟨x6.heap.size, 2, none⟩) (.inr rfl) _
    have ML_y12 : Hid (InMem y12 A1 A2 A3 xs ys rs) := ML_x11.out.aside ay12 N10L
    clear ML_x11
    have K0_y12 : Hid (Blk y12 w.heap.size 25 #[.slice A1 xs.length c1, .slice A2 ys.length c2, .slice A3 rs.length c3]) := ay12.blk K0_x11.out (by omega)
    clear K0_x11
    have ME_y12 : Hid (InMem y12 E1 E2 E3 xs ys rs) := ME_x11.out.aside ay12 N10E
    clear ME_x11
    have K5_y12 : Hid (Blk y12 x2.heap.size 25 #[.slice E1 xs.length e1, .slice E2 ys.length e2, .slice E3 rs.length e3]) := ay12.blk K5_x11.out (by omega)
    clear K5_x11
    have K6_y12 : Hid (Blk y12 x4.heap.size 25 #[.slice D1 ds.length d1, .slice D2 dt.length d2, .slice D3 du.length d3]) := ay12.blk K6_x11.out (by omega)
    clear K6_x11
    have K10_y12 : Hid (Blk y12 x6.heap.size 25 #[.slice R1 ds.length r1, .slice R2 dt.length r2, .slice R3 du.length r3]) := by show Blk _ _ _ _; rw [← hy12]; simpa using (((K10_x11.out.set_ 0 (.slice R1 ds.length r1)).set_ 1 (.slice R2 dt.length r2)).set_ 2 (.slice R3 du.length r3))
    clear K10_x11
    have MD_y12 : Hid (InMem y12 D1 D2 D3 ds dt du) := MD_x11.out.aside ay12 N10D
    clear MD_x11
    have MR_y12 : Hid (InMem y12 R1 R2 R3 ds dt du) := MRx.out.aside ay12 N10R
    clear MRx
    have HB_y12 : Hid (Below w.heap.size w y12) := HB_x11.out.trans (ay12.below (by have := HB_x11.out.size; omega) fun k hk e => by omega)
    clear HB_x11
    have sy12 := ay12.size
    (try rw [hy12])
    clear hy12 ay12
    have p0 : y12.cell? ⟨x4.heap.size, 0, none⟩ = some (.slice D1 ds.length d1) := (K6_y12.out.cell_ 0).trans (by simp)
    have p1 : y12.cell? ⟨x4.heap.size, 1, none⟩ = some (.slice D2 dt.length d2) := (K6_y12.out.cell_ 1).trans (by simp)
    have p2 : y12.cell? ⟨x4.heap.size, 2, none⟩ = some (.slice D3 du.length d3) := (K6_y12.out.cell_ 2).trans (by simp)
    have s0 : y12.cell? ⟨x6.heap.size, 0, none⟩ = some (.slice R1 ds.length r1) := (K10_y12.out.cell_ 0).trans (by simp)
    have s1 : y12.cell? ⟨x6.heap.size, 1, none⟩ = some (.slice R2 dt.length r2) := (K10_y12.out.cell_ 1).trans (by simp)
    have s2 : y12.cell? ⟨x6.heap.size, 2, none⟩ = some (.slice R3 du.length r3) := (K10_y12.out.cell_ 2).trans (by simp)
    have q0 : y12.cell? ⟨w.heap.size, 0, none⟩ = some (.slice A1 xs.length c1) := (K0_y12.out.cell_ 0).trans (by simp)
    have q1 : y12.cell? ⟨w.heap.size, 1, none⟩ = some (.slice A2 ys.length c2) := (K0_y12.out.cell_ 1).trans (by simp)
    have q2 : y12.cell? ⟨w.heap.size, 2, none⟩ = some (.slice A3 rs.length c3) := (K0_y12.out.cell_ 2).trans (by simp)
    have t0 : y12.cell? ⟨x2.heap.size, 0, none⟩ = some (.slice E1 xs.length e1) := (K5_y12.out.cell_ 0).trans (by simp)
    have t1 : y12.cell? ⟨x2.heap.size, 1, none⟩ = some (.slice E2 ys.length e2) := (K5_y12.out.cell_ 1).trans (by simp)
    have t2 : y12.cell? ⟨x2.heap.size, 2, none⟩ = some (.slice E3 rs.length e3) := (K5_y12.out.cell_ 2).trans (by simp)
    go_wp2_with fail
    refine (same_lists D1 D2 D3 R1 R2 R3 d1 d2 d3 r1 r2 r3 ds dt du _ MD_y12.out MR_y12.out hd1 hd2 hd3).mono ?_
    rintro e x13 ⟨rfl, h13⟩
    clear p0 p1 p2 s0 s1 s2 q0 q1 q2 t0 t1 t2
    have ML_x13 : Hid (InMem x13 A1 A2 A3 xs ys rs) := ML_y12.out.ext h13
    clear ML_y12
    have K0_x13 : Hid (Blk x13 w.heap.size 25 #[.slice A1 xs.length c1, .slice A2 ys.length c2, .slice A3 rs.length c3]) := K0_y12.out.below_ h13 K0_y12.out.lt
    clear K0_y12
    have ME_x13 : Hid (InMem x13 E1 E2 E3 xs ys rs) := ME_y12.out.ext h13
    clear ME_y12
    have K5_x13 : Hid (Blk x13 x2.heap.size 25 #[.slice E1 xs.length e1, .slice E2 ys.length e2, .slice E3 rs.length e3]) := K5_y12.out.below_ h13 K5_y12.out.lt
    clear K5_y12
    have K6_x13 : Hid (Blk x13 x4.heap.size 25 #[.slice D1 ds.length d1, .slice D2 dt.length d2, .slice D3 du.length d3]) := K6_y12.out.below_ h13 K6_y12.out.lt
    clear K6_y12
    have K10_x13 : Hid (Blk x13 x6.heap.size 25 #[.slice R1 ds.length r1, .slice R2 dt.length r2, .slice R3 du.length r3]) := K10_y12.out.below_ h13 K10_y12.out.lt
    clear K10_y12
    have MD_x13 : Hid (InMem x13 D1 D2 D3 ds dt du) := MD_y12.out.ext h13
    clear MD_y12
    have MR_x13 : Hid (InMem x13 R1 R2 R3 ds dt du) := MR_y12.out.ext h13
    clear MR_y12
    have HB_x13 : Hid (Below w.heap.size w x13) := HB_y12.out.trans (h13.mono HB_y12.out.size)
    clear HB_y12
    have q0 : x13.cell? ⟨w.heap.size, 0, none⟩ = some (.slice A1 xs.length c1) := (K0_x13.out.cell_ 0).trans (by simp)
    have q1 : x13.cell? ⟨w.heap.size, 1, none⟩ = some (.slice A2 ys.length c2) := (K0_x13.out.cell_ 1).trans (by simp)
    have q2 : x13.cell? ⟨w.heap.size, 2, none⟩ = some (.slice A3 rs.length c3) := (K0_x13.out.cell_ 2).trans (by simp)
    have t0 : x13.cell? ⟨x2.heap.size, 0, none⟩ = some (.slice E1 xs.length e1) := (K5_x13.out.cell_ 0).trans (by simp)
    have t1 : x13.cell? ⟨x2.heap.size, 1, none⟩ = some (.slice E2 ys.length e2) := (K5_x13.out.cell_ 1).trans (by simp)
    have t2 : x13.cell? ⟨x2.heap.size, 2, none⟩ = some (.slice E3 rs.length e3) := (K5_x13.out.cell_ 2).trans (by simp)
    go_wp2_with fail
    refine (same_lists E1 E2 E3 A1 A2 A3 e1 e2 e3 c1 c2 c3 xs ys rs _ ME_x13.out ML_x13.out (by omega) (by omega) (by omega)).mono ?_
    rintro e x14 ⟨rfl, h14⟩
    clear q0 q1 q2 t0 t1 t2
    have ML_x14 : Hid (InMem x14 A1 A2 A3 xs ys rs) := ML_x13.out.ext h14
    clear ML_x13
    have K0_x14 : Hid (Blk x14 w.heap.size 25 #[.slice A1 xs.length c1, .slice A2 ys.length c2, .slice A3 rs.length c3]) := K0_x13.out.below_ h14 K0_x13.out.lt
    clear K0_x13
    have ME_x14 : Hid (InMem x14 E1 E2 E3 xs ys rs) := ME_x13.out.ext h14
    clear ME_x13
    have K5_x14 : Hid (Blk x14 x2.heap.size 25 #[.slice E1 xs.length e1, .slice E2 ys.length e2, .slice E3 rs.length e3]) := K5_x13.out.below_ h14 K5_x13.out.lt
    clear K5_x13
    have K6_x14 : Hid (Blk x14 x4.heap.size 25 #[.slice D1 ds.length d1, .slice D2 dt.length d2, .slice D3 du.length d3]) := K6_x13.out.below_ h14 K6_x13.out.lt
    clear K6_x13
    have K10_x14 : Hid (Blk x14 x6.heap.size 25 #[.slice R1 ds.length r1, .slice R2 dt.length r2, .slice R3 du.length r3]) := K10_x13.out.below_ h14 K10_x13.out.lt
    clear K10_x13
    have MD_x14 : Hid (InMem x14 D1 D2 D3 ds dt du) := MD_x13.out.ext h14
    clear MD_x13
    have MR_x14 : Hid (InMem x14 R1 R2 R3 ds dt du) := MR_x13.out.ext h14
    clear MR_x13
    have HB_x14 : Hid (Below w.heap.size w x14) := HB_x13.out.trans (h14.mono HB_x13.out.size)
    clear HB_x13
    go_wp2_with fail
    refine (awake_any _).mono ?_
    rintro e x15 ⟨rfl, h15⟩
    have ML_x15 : Hid (InMem x15 A1 A2 A3 xs ys rs) := ML_x14.out.ext h15
    clear ML_x14
    have K0_x15 : Hid (Blk x15 w.heap.size 25 #[.slice A1 xs.length c1, .slice A2 ys.length c2, .slice A3 rs.length c3]) := K0_x14.out.below_ h15 K0_x14.out.lt
    clear K0_x14
    have ME_x15 : Hid (InMem x15 E1 E2 E3 xs ys rs) := ME_x14.out.ext h15
    clear ME_x14
    have K5_x15 : Hid (Blk x15 x2.heap.size 25 #[.slice E1 xs.length e1, .slice E2 ys.length e2, .slice E3 rs.length e3]) := K5_x14.out.below_ h15 K5_x14.out.lt
    clear K5_x14
    have K6_x15 : Hid (Blk x15 x4.heap.size 25 #[.slice D1 ds.length d1, .slice D2 dt.length d2, .slice D3 du.length d3]) := K6_x14.out.below_ h15 K6_x14.out.lt
    clear K6_x14
    have K10_x15 : Hid (Blk x15 x6.heap.size 25 #[.slice R1 ds.length r1, .slice R2 dt.length r2, .slice R3 du.length r3]) := K10_x14.out.below_ h15 K10_x14.out.lt
    clear K10_x14
    have MD_x15 : Hid (InMem x15 D1 D2 D3 ds dt du) := MD_x14.out.ext h15
    clear MD_x14
    have MR_x15 : Hid (InMem x15 R1 R2 R3 ds dt du) := MR_x14.out.ext h15
    clear MR_x14
    have HB_x15 : Hid (Below w.heap.size w x15) := HB_x14.out.trans (h15.mono HB_x14.out.size)
    clear HB_x14
    go_wp2_with fail
    go_ret
    exact ⟨by first | rfl | simp, HB_x15.out⟩

set_option maxRecDepth 100000 in
theorem scanSteps_lifted (os : Os) (started : os.Started) (H : Type) (enc : TypeId × Value → H) :
    ReturnsInHanded {} Try.checked os 3 .any (Rows.scanStepsSpec.pre6 enc Try.prog Try.f3 Rows.scanStepsRow.domain false) (Rows.scanStepsSpec.post enc Try.prog Try.f3 false true false false) := by
  refine returnsInHanded_of_change (C := Try.checked) own started (by kernel_rfl) Try.func3
    (ChangeSpec.witness6 (enc := enc) (C := Try.checked) false ⟨#[], #[.agg #[.slice none 0 0, .slice none 0 0, .slice none 0 0], .int .i64 0], []⟩ 8 (by kernel_rfl) (by kernel_rfl) (by kernel_rfl) (by kernel_rfl)) ?_
  intro W base args ds gs before hval0 hW hcnd _
  have hval : ∀ (j : Nat) t v, Try.f3.params[j]? = some t → args[j]? = some v → Value.okWide Try.prog W .any base t v := hval0
  have hW' := hW
  obtain ⟨p, q, hA0, hV, rfl, hfz, hnd⟩ := hW
  have hA : DataW.TrodAll enc Try.prog W 0 (fun _ => true) true Try.f3.params.toList args.toList ds p := hA0
  rw [Try.params3] at hA hval
  obtain ⟨v0, vs0, d0, ds0, p0, q0, hargs, rfl, rfl, h0, r0⟩ := trodAll_cons hA
  obtain ⟨v1, vs1, d1, ds1, p1, q1, rfl, rfl, rfl, h1, r1⟩ := trodAll_cons r0
  obtain ⟨rfl, rfl, rfl⟩ := trodAll_nil r1
  obtain rfl : args = #[v0, v1] := by cases args; simp_all
  obtain ⟨rfl, rfl⟩ := trodVars_none hV
  obtain ⟨c0, c1, c2, y0, y1, y2, m0, rfl, rfl, rfl, hy0, hy1, hy2⟩ := open_agg3 Try.underlying25 (by kernel_rfl) (by kernel_rfl) (hval 0 25 v0 rfl rfl) h0
  obtain ⟨AL0, kL0, aL0, rfl, sL0, wL0, lL0⟩ := open_cellsI Try.underlying22 Try.underlying3 (by kernel_rfl) hy0
  obtain ⟨AL1, kL1, aL1, rfl, sL1, wL1, lL1⟩ := open_cellsI Try.underlying22 Try.underlying3 (by kernel_rfl) hy1
  obtain ⟨AL2, kL2, aL2, rfl, sL2, lL2⟩ := open_cellsB Try.underlying23 Try.underlying4 (by kernel_rfl) hy2
  obtain ⟨a1, rfl, rfl, rfl, w1⟩ := open_int Try.underlying3 (hval 1 3 v1 rfl rfl) h1
  clear hA0 hval0
  refine (scanSteps_walk AL0 AL1 AL2 kL0 kL1 kL2 aL0 aL1 aL2 a1 W sL0 sL1 sL2 wL0 wL1 lL0 lL1 lL2 w1).mono fun e W' ⟨he, hb⟩ => ⟨_, he, ?_⟩
  exact law_post laidOut (s := Rows.scanStepsSpec) (B := 4) rfl rfl Try.underlying4 (by decide +kernel) hW' rfl hb

theorem scanSteps_holds : Rows.ScanStepsSaid :=
  OpenClaim.holds_of_wide 3 Try.f3 rfl rfl rfl rfl rfl rfl rfl ⟨rfl, rfl, rfl, rfl, rfl⟩ rfl rfl rfl rfl rfl (by kernel_rfl) Try.func3 (by kernel_rfl)
    (of_decide_eq_true (by kernel_rfl)) (by unfold Func.isWrapper; first | (rw [if_pos (by decide +kernel)]; kernel_rfl) | (rw [if_neg (by decide +kernel)]; exact ⟨rfl, rfl⟩))
    (fun os started H enc _ => scanSteps_lifted os started H enc)

end Go.Proofs.Ytiobbdfkimpfbaa
