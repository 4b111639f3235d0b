/- ScanSweeps: what some background steps make of lists, with their victims, the first and all victims, and which frames they leave alone, or which errors. Written by gen_lssw.py. -/
import Derived.Test.YtiobbdfkimpfbaaScSg
import Derived.Test.YtiobbdfkimpfbaaMgD
import Derived.Test.YtiobbdfkimpfbaaCloseL
namespace Go.Proofs.Ytiobbdfkimpfbaa
set_option linter.unusedSimpArgs false
set_option linter.unusedVariables false
open Go.RowKit Go.Maps
open Go.ChangeShapes Go.WideShapes Go.ChangeAt Go.Joins

theorem same_l2 (A B : Option Addr) (c d : Nat) (xs : List Int) (w : World) (ha : Sl w (.int .i64) A xs) (hb : Sl w (.int .i64) B xs) (l1 : xs.length ≤ 100000) :
    Calls Try.prog 20 #[.slice A xs.length c, .slice B xs.length d] w fun e w' => e = .returned (.bool true) ∧ Below w.heap.size w w' := by
  have := SameInts_any A B c d xs xs w ha hb l1 l1
  rwa [decide_eq_true rfl] at this
set_option maxRecDepth 100000 in
set_option maxHeartbeats 16000000 in
theorem scanSweeps_walk (A1 A2 A3 : Option Addr) (c1 c2 c3 : Nat) (xs ys : List Int) (rs : List Bool) (T n : Int) (w : World) (sa : Sl w (.int .i64) A1 xs) (si : Sl w (.int .i64) A2 ys) (sr : Sl w .bool A3 rs)
    (wa : ∀ x ∈ xs, (Lit.int .i64 x).wf = true) (wi : ∀ x ∈ ys, (Lit.int .i64 x).wf = true) (la0 : xs.length ≤ maxLen) (li0 : ys.length ≤ maxLen) (lr0 : rs.length ≤ maxLen) (_wt : (Lit.int .i64 T).wf = true) (_wn : (Lit.int .i64 n).wf = true) :
    Calls Try.prog 4 #[.agg #[.slice A1 xs.length c1, .slice A2 ys.length c2, .slice A3 rs.length c3], .int .i64 T, .int .i64 n] w fun e w' => e = .returned (.bool true) ∧ Below w.heap.size w w' := by
  by_cases hl : 40 < xs.length ∨ 40 < ys.length ∨ 260 < rs.length
  · have hdec := decide_eq_true hl
    have HDEC := Lib.hid hdec
    clear hl hdec sa si sr wa wi la0 li0 lr0
    go_enter Try.func4, Try.ntmps4
    go_wp2_with fail
    refine (large_any A1 A2 A3 c1 c2 c3 xs.length ys.length rs.length _).mono ?_
    rw [HDEC.out]
    rintro e x1 ⟨rfl, h1⟩
    go_wp2_with fail
    refine (awake_any _).mono ?_
    rintro e x2 ⟨rfl, h2⟩
    go_wp2_with fail
    go_ret
    exact ⟨rfl, (by repeat' (first | with_reducible exact Below.refl _ _ | with_reducible assumption | with_reducible apply Below.drew | with_reducible apply below_drewN | with_reducible apply Below.alloc | with_reducible apply Below.setCell | (with_reducible refine Below.trans ?_ (Below.mono (by assumption) ?_)) | (simp; done) | (simp; omega) | omega | with_reducible apply le_size_alloc | with_reducible apply le_size_drewN | with_reducible apply le_size_drew | with_reducible apply le_size_setCell | refine Nat.le_trans ?_ (Below.size (by assumption))))⟩
  · have hnl := hl
    have hm : InMem w A1 A2 A3 xs ys rs := ⟨sa, si, sr, by omega, by omega, by omega, wa, wi⟩
    have HM := Lib.hid hm
    have l1 : xs.length ≤ 40 := by omega
    have l2 : ys.length ≤ 40 := by omega
    have l3 : rs.length ≤ 260 := by omega
    have s1 := swp_small (T := T) (n := n) (xs := xs) (ys := ys) (rs := rs)
    have s2 := vic_small (T := T) (xs := xs) (ys := ys) (rs := rs)
    have s3 := saf_small (T := T) (n := n) (xs := xs) (ys := ys) (rs := rs)
    obtain ⟨⟨⟨us, vs, ss, v1, mo⟩, z1⟩, hSW⟩ : ∃ R, swpS T n xs ys rs = R := ⟨_, rfl⟩
    obtain ⟨⟨f1, f2, z2⟩, hFI⟩ : ∃ R, firS T xs ys rs = R := ⟨_, rfl⟩
    obtain ⟨⟨v2, z3⟩, hVI⟩ : ∃ R, vicS T xs ys rs = R := ⟨_, rfl⟩
    obtain ⟨⟨v3, z4⟩, hSA⟩ : ∃ R, safS T n xs ys rs = R := ⟨_, rfl⟩
    rw [hSW] at s1
    rw [hVI] at s2
    rw [hSA] at s3
    dsimp only at s1 s2 s3
    obtain ⟨hu1, hu2, hu3, hu4⟩ := s1
    have HSW := Lib.hid hSW; have HFI := Lib.hid hFI; have HVI := Lib.hid hVI; have HSA := Lib.hid hSA
    have HB0 : Hid (Below w.heap.size w w) := Below.refl _ _
    clear hl sa si sr wa wi la0 li0 lr0 hm hSW hFI hVI hSA
    go_enter Try.func4, Try.ntmps4
    go_wp2_with fail
    obtain ⟨V1, hV1⟩ : ∃ V, w.alloc (.cells #[.slice A1 xs.length c1, .slice A2 ys.length c2, .slice A3 rs.length c3] 25) = V := ⟨_, rfl⟩
    have hbV1 : Below w.heap.size w V1 := by rw [← hV1]; exact (Below.refl _ _).alloc (Nat.le_refl _) _
    have hkV1 : Hid (Blk V1 w.heap.size 25 #[.slice A1 xs.length c1, .slice A2 ys.length c2, .slice A3 rs.length c3]) := by show Blk _ _ _ _; rw [← hV1]; exact Blk.new_ rfl rfl
    (try rw [hV1])
    clear hV1
    have bw2 : Below w.heap.size w V1 := (by repeat' (first | with_reducible exact Below.refl _ _ | with_reducible assumption | with_reducible apply Below.drew | with_reducible apply below_drewN | with_reducible apply Below.alloc | with_reducible apply Below.setCell | (with_reducible refine Below.trans ?_ (Below.mono (by assumption) ?_)) | (simp; done) | (simp; omega) | omega | with_reducible apply le_size_alloc | with_reducible apply le_size_drewN | with_reducible apply le_size_drew | with_reducible apply le_size_setCell | with_reducible refine Nat.le_trans ?_ (Below.size (by assumption))))
    have HB_2 : Hid (Below w.heap.size w V1) := HB0.out.trans (bw2.mono HB0.out.size)
    have ML_2 : Hid (InMem V1 A1 A2 A3 xs ys rs) := HM.out.ext bw2
    clear bw2 hbV1 HB0 HM
    refine (large_any A1 A2 A3 c1 c2 c3 xs.length ys.length rs.length _).mono ?_
    rw [decide_eq_false hnl]
    rintro e x3 ⟨rfl, hx3⟩
    have bw4 : Below V1.heap.size V1 x3 := (by repeat' (first | with_reducible exact Below.refl _ _ | with_reducible assumption | with_reducible apply Below.drew | with_reducible apply below_drewN | with_reducible apply Below.alloc | with_reducible apply Below.setCell | (with_reducible refine Below.trans ?_ (Below.mono (by assumption) ?_)) | (simp; done) | (simp; omega) | omega | with_reducible apply le_size_alloc | with_reducible apply le_size_drewN | with_reducible apply le_size_drew | with_reducible apply le_size_setCell | with_reducible refine Nat.le_trans ?_ (Below.size (by assumption))))
    have HB_4 : Hid (Below w.heap.size w x3) := HB_2.out.trans (bw4.mono HB_2.out.size)
    have ML_4 : Hid (InMem x3 A1 A2 A3 xs ys rs) := ML_2.out.ext bw4
    have L_4 : Hid (Blk x3 w.heap.size 25 #[.slice A1 xs.length c1, .slice A2 ys.length c2, .slice A3 rs.length c3]) := hkV1.out.below_ bw4 hkV1.out.lt
    clear bw4 hx3 HB_2 ML_2 hkV1
    have kL0 : x3.cell? ⟨w.heap.size, 0, none⟩ = some (.slice A1 xs.length c1) := (L_4.out.cell_ 0).trans (by simp)
    have kL1 : x3.cell? ⟨w.heap.size, 1, none⟩ = some (.slice A2 ys.length c2) := (L_4.out.cell_ 1).trans (by simp)
    have kL2 : x3.cell? ⟨w.heap.size, 2, none⟩ = some (.slice A3 rs.length c3) := (L_4.out.cell_ 2).trans (by simp)
    go_wp2_with fail
    refine (OwnLists_any A1 A2 A3 c1 c2 c3 xs ys rs _ ML_4.out.a ML_4.out.i ML_4.out.r (by omega) (by omega) (by omega)).mono ?_
    rintro e x5 ⟨E1, e1, E2, e2, E3, e3, rfl, ho, hx5⟩
    clear kL0 kL1 kL2
    have bw6 : Below x3.heap.size x3 x5 := (by repeat' (first | with_reducible exact Below.refl _ _ | with_reducible assumption | with_reducible apply Below.drew | with_reducible apply below_drewN | with_reducible apply Below.alloc | with_reducible apply Below.setCell | (with_reducible refine Below.trans ?_ (Below.mono (by assumption) ?_)) | (simp; done) | (simp; omega) | omega | with_reducible apply le_size_alloc | with_reducible apply le_size_drewN | with_reducible apply le_size_drew | with_reducible apply le_size_setCell | with_reducible refine Nat.le_trans ?_ (Below.size (by assumption))))
    have HB_6 : Hid (Below w.heap.size w x5) := HB_4.out.trans (bw6.mono HB_4.out.size)
    have ML_6 : Hid (InMem x5 A1 A2 A3 xs ys rs) := ML_4.out.ext bw6
    have L_6 : Hid (Blk x5 w.heap.size 25 #[.slice A1 xs.length c1, .slice A2 ys.length c2, .slice A3 rs.length c3]) := L_4.out.below_ bw6 L_4.out.lt
    clear bw6 hx5 HB_4 ML_4 L_4
    have MEx : Hid (InMem x5 E1 E2 E3 xs ys rs) := ho.mem (by omega) (by omega) (by omega) ML_6.out.wa ML_6.out.wi
    clear ho
    go_wp2_with fail
    obtain ⟨V7, hV7⟩ : ∃ V, x5.alloc (.cells #[.slice E1 xs.length e1, .slice E2 ys.length e2, .slice E3 rs.length e3] 25) = V := ⟨_, rfl⟩
    have hbV7 : Below x5.heap.size x5 V7 := by rw [← hV7]; exact (Below.refl _ _).alloc (Nat.le_refl _) _
    have hkV7 : Hid (Blk V7 x5.heap.size 25 #[.slice E1 xs.length e1, .slice E2 ys.length e2, .slice E3 rs.length e3]) := by show Blk _ _ _ _; rw [← hV7]; exact Blk.new_ rfl rfl
    (try rw [hV7])
    clear hV7
    have bw8 : Below x5.heap.size x5 V7 := (by repeat' (first | with_reducible exact Below.refl _ _ | with_reducible assumption | with_reducible apply Below.drew | with_reducible apply below_drewN | with_reducible apply Below.alloc | with_reducible apply Below.setCell | (with_reducible refine Below.trans ?_ (Below.mono (by assumption) ?_)) | (simp; done) | (simp; omega) | omega | with_reducible apply le_size_alloc | with_reducible apply le_size_drewN | with_reducible apply le_size_drew | with_reducible apply le_size_setCell | with_reducible refine Nat.le_trans ?_ (Below.size (by assumption))))
    have HB_8 : Hid (Below w.heap.size w V7) := HB_6.out.trans (bw8.mono HB_6.out.size)
    have ML_8 : Hid (InMem V7 A1 A2 A3 xs ys rs) := ML_6.out.ext bw8
    have L_8 : Hid (Blk V7 w.heap.size 25 #[.slice A1 xs.length c1, .slice A2 ys.length c2, .slice A3 rs.length c3]) := L_6.out.below_ bw8 L_6.out.lt
    have ME_8 : Hid (InMem V7 E1 E2 E3 xs ys rs) := MEx.out.ext bw8
    clear bw8 hbV7 HB_6 ML_6 L_6 MEx
    refine (Sweep_any E1 E2 E3 e1 e2 e3 xs ys rs T n _ ME_8.out).mono ?_
    rw [HSW.out]
    rintro e x9 ⟨B1, B2, B3, b1, b2, b3, X1, X1c, rfl, hmX1, hsX1, hx9⟩
    have bw10 : Below V7.heap.size V7 x9 := (by repeat' (first | with_reducible exact Below.refl _ _ | with_reducible assumption | with_reducible apply Below.drew | with_reducible apply below_drewN | with_reducible apply Below.alloc | with_reducible apply Below.setCell | (with_reducible refine Below.trans ?_ (Below.mono (by assumption) ?_)) | (simp; done) | (simp; omega) | omega | with_reducible apply le_size_alloc | with_reducible apply le_size_drewN | with_reducible apply le_size_drew | with_reducible apply le_size_setCell | with_reducible refine Nat.le_trans ?_ (Below.size (by assumption))))
    have HB_10 : Hid (Below w.heap.size w x9) := HB_8.out.trans (bw10.mono HB_8.out.size)
    have ML_10 : Hid (InMem x9 A1 A2 A3 xs ys rs) := ML_8.out.ext bw10
    have L_10 : Hid (Blk x9 w.heap.size 25 #[.slice A1 xs.length c1, .slice A2 ys.length c2, .slice A3 rs.length c3]) := L_8.out.below_ bw10 L_8.out.lt
    have ME_10 : Hid (InMem x9 E1 E2 E3 xs ys rs) := ME_8.out.ext bw10
    have I_10 : Hid (Blk x9 x5.heap.size 25 #[.slice E1 xs.length e1, .slice E2 ys.length e2, .slice E3 rs.length e3]) := hkV7.out.below_ bw10 hkV7.out.lt
    clear bw10 hx9 HB_8 ML_8 L_8 ME_8 hkV7
    dsimp only at hmX1 hsX1 ⊢
    have MX1 := Lib.hid hmX1
    have SX1 := Lib.hid hsX1
    clear hmX1 hsX1
    have kL0 : x9.cell? ⟨w.heap.size, 0, none⟩ = some (.slice A1 xs.length c1) := (L_10.out.cell_ 0).trans (by simp)
    have kL1 : x9.cell? ⟨w.heap.size, 1, none⟩ = some (.slice A2 ys.length c2) := (L_10.out.cell_ 1).trans (by simp)
    have kL2 : x9.cell? ⟨w.heap.size, 2, none⟩ = some (.slice A3 rs.length c3) := (L_10.out.cell_ 2).trans (by simp)
    have zL := L_10.out.lt
    go_wp2_with fail
    clear kL0 kL1 kL2 zL
    obtain ⟨V11, hV11⟩ : ∃ V, x9.alloc (.cells #[.slice B1 us.length b1, .slice B2 vs.length b2, .slice B3 ss.length b3] 25) = V := ⟨_, rfl⟩
    have hbV11 : Below x9.heap.size x9 V11 := by rw [← hV11]; exact (Below.refl _ _).alloc (Nat.le_refl _) _
    have hkV11 : Hid (Blk V11 x9.heap.size 25 #[.slice B1 us.length b1, .slice B2 vs.length b2, .slice B3 ss.length b3]) := by show Blk _ _ _ _; rw [← hV11]; exact Blk.new_ rfl rfl
    (try rw [hV11])
    clear hV11
    have bw12 : Below x9.heap.size x9 V11 := (by repeat' (first | with_reducible exact Below.refl _ _ | with_reducible assumption | with_reducible apply Below.drew | with_reducible apply below_drewN | with_reducible apply Below.alloc | with_reducible apply Below.setCell | (with_reducible refine Below.trans ?_ (Below.mono (by assumption) ?_)) | (simp; done) | (simp; omega) | omega | with_reducible apply le_size_alloc | with_reducible apply le_size_drewN | with_reducible apply le_size_drew | with_reducible apply le_size_setCell | with_reducible refine Nat.le_trans ?_ (Below.size (by assumption))))
    have HB_12 : Hid (Below w.heap.size w V11) := HB_10.out.trans (bw12.mono HB_10.out.size)
    have ML_12 : Hid (InMem V11 A1 A2 A3 xs ys rs) := ML_10.out.ext bw12
    have L_12 : Hid (Blk V11 w.heap.size 25 #[.slice A1 xs.length c1, .slice A2 ys.length c2, .slice A3 rs.length c3]) := L_10.out.below_ bw12 L_10.out.lt
    have ME_12 : Hid (InMem V11 E1 E2 E3 xs ys rs) := ME_10.out.ext bw12
    have I_12 : Hid (Blk V11 x5.heap.size 25 #[.slice E1 xs.length e1, .slice E2 ys.length e2, .slice E3 rs.length e3]) := I_10.out.below_ bw12 I_10.out.lt
    have Ma_12 : Hid (InMem V11 B1 B2 B3 us vs ss) := MX1.out.ext bw12
    have Sa_12 : Hid (Sl V11 (.int .i64) X1 v1) := SX1.out.ext bw12
    clear bw12 hbV11 HB_10 ML_10 L_10 ME_10 I_10 MX1 SX1
    refine (RSweep_any A1 A2 A3 c1 c2 c3 xs ys rs T n _ ML_12.out).mono ?_
    rw [HSW.out]
    rintro e x13 ⟨C1, C2, C3, k1, k2, k3, X2, X2c, rfl, hmX2, hsX2, hx13⟩
    have bw14 : Below V11.heap.size V11 x13 := (by repeat' (first | with_reducible exact Below.refl _ _ | with_reducible assumption | with_reducible apply Below.drew | with_reducible apply below_drewN | with_reducible apply Below.alloc | with_reducible apply Below.setCell | (with_reducible refine Below.trans ?_ (Below.mono (by assumption) ?_)) | (simp; done) | (simp; omega) | omega | with_reducible apply le_size_alloc | with_reducible apply le_size_drewN | with_reducible apply le_size_drew | with_reducible apply le_size_setCell | with_reducible refine Nat.le_trans ?_ (Below.size (by assumption))))
    have HB_14 : Hid (Below w.heap.size w x13) := HB_12.out.trans (bw14.mono HB_12.out.size)
    have ML_14 : Hid (InMem x13 A1 A2 A3 xs ys rs) := ML_12.out.ext bw14
    have L_14 : Hid (Blk x13 w.heap.size 25 #[.slice A1 xs.length c1, .slice A2 ys.length c2, .slice A3 rs.length c3]) := L_12.out.below_ bw14 L_12.out.lt
    have ME_14 : Hid (InMem x13 E1 E2 E3 xs ys rs) := ME_12.out.ext bw14
    have I_14 : Hid (Blk x13 x5.heap.size 25 #[.slice E1 xs.length e1, .slice E2 ys.length e2, .slice E3 rs.length e3]) := I_12.out.below_ bw14 I_12.out.lt
    have Ma_14 : Hid (InMem x13 B1 B2 B3 us vs ss) := Ma_12.out.ext bw14
    have Sa_14 : Hid (Sl x13 (.int .i64) X1 v1) := Sa_12.out.ext bw14
    have a_14 : Hid (Blk x13 x9.heap.size 25 #[.slice B1 us.length b1, .slice B2 vs.length b2, .slice B3 ss.length b3]) := hkV11.out.below_ bw14 hkV11.out.lt
    clear bw14 hx13 HB_12 ML_12 L_12 ME_12 I_12 Ma_12 Sa_12 hkV11
    dsimp only at hmX2 hsX2 ⊢
    have MX2 := Lib.hid hmX2
    have SX2 := Lib.hid hsX2
    clear hmX2 hsX2
    have ka0 : x13.cell? ⟨x9.heap.size, 0, none⟩ = some (.slice B1 us.length b1) := (a_14.out.cell_ 0).trans (by simp)
    have ka1 : x13.cell? ⟨x9.heap.size, 1, none⟩ = some (.slice B2 vs.length b2) := (a_14.out.cell_ 1).trans (by simp)
    have ka2 : x13.cell? ⟨x9.heap.size, 2, none⟩ = some (.slice B3 ss.length b3) := (a_14.out.cell_ 2).trans (by simp)
    have za := a_14.out.lt
    go_wp2_with fail
    clear ka0 ka1 ka2 za
    obtain ⟨V15, hV15⟩ : ∃ V, x13.alloc (.cells #[.slice C1 us.length k1, .slice C2 vs.length k2, .slice C3 ss.length k3] 25) = V := ⟨_, rfl⟩
    have hbV15 : Below x13.heap.size x13 V15 := by rw [← hV15]; exact (Below.refl _ _).alloc (Nat.le_refl _) _
    have hkV15 : Hid (Blk V15 x13.heap.size 25 #[.slice C1 us.length k1, .slice C2 vs.length k2, .slice C3 ss.length k3]) := by show Blk _ _ _ _; rw [← hV15]; exact Blk.new_ rfl rfl
    (try rw [hV15])
    clear hV15
    have bw16 : Below x13.heap.size x13 V15 := (by repeat' (first | with_reducible exact Below.refl _ _ | with_reducible assumption | with_reducible apply Below.drew | with_reducible apply below_drewN | with_reducible apply Below.alloc | with_reducible apply Below.setCell | (with_reducible refine Below.trans ?_ (Below.mono (by assumption) ?_)) | (simp; done) | (simp; omega) | omega | with_reducible apply le_size_alloc | with_reducible apply le_size_drewN | with_reducible apply le_size_drew | with_reducible apply le_size_setCell | with_reducible refine Nat.le_trans ?_ (Below.size (by assumption))))
    have HB_16 : Hid (Below w.heap.size w V15) := HB_14.out.trans (bw16.mono HB_14.out.size)
    have ML_16 : Hid (InMem V15 A1 A2 A3 xs ys rs) := ML_14.out.ext bw16
    have L_16 : Hid (Blk V15 w.heap.size 25 #[.slice A1 xs.length c1, .slice A2 ys.length c2, .slice A3 rs.length c3]) := L_14.out.below_ bw16 L_14.out.lt
    have ME_16 : Hid (InMem V15 E1 E2 E3 xs ys rs) := ME_14.out.ext bw16
    have I_16 : Hid (Blk V15 x5.heap.size 25 #[.slice E1 xs.length e1, .slice E2 ys.length e2, .slice E3 rs.length e3]) := I_14.out.below_ bw16 I_14.out.lt
    have Ma_16 : Hid (InMem V15 B1 B2 B3 us vs ss) := Ma_14.out.ext bw16
    have Sa_16 : Hid (Sl V15 (.int .i64) X1 v1) := Sa_14.out.ext bw16
    have a_16 : Hid (Blk V15 x9.heap.size 25 #[.slice B1 us.length b1, .slice B2 vs.length b2, .slice B3 ss.length b3]) := a_14.out.below_ bw16 a_14.out.lt
    have Mb_16 : Hid (InMem V15 C1 C2 C3 us vs ss) := MX2.out.ext bw16
    have Sb_16 : Hid (Sl V15 (.int .i64) X2 v1) := SX2.out.ext bw16
    clear bw16 hbV15 HB_14 ML_14 L_14 ME_14 I_14 Ma_14 Sa_14 a_14 MX2 SX2
    refine (same_lists B1 B2 B3 C1 C2 C3 b1 b2 b3 k1 k2 k3 us vs ss _ Ma_16.out Mb_16.out hu1 hu2 hu3).mono ?_
    rintro e x17 ⟨rfl, hx17⟩
    have bw18 : Below V15.heap.size V15 x17 := (by repeat' (first | with_reducible exact Below.refl _ _ | with_reducible assumption | with_reducible apply Below.drew | with_reducible apply below_drewN | with_reducible apply Below.alloc | with_reducible apply Below.setCell | (with_reducible refine Below.trans ?_ (Below.mono (by assumption) ?_)) | (simp; done) | (simp; omega) | omega | with_reducible apply le_size_alloc | with_reducible apply le_size_drewN | with_reducible apply le_size_drew | with_reducible apply le_size_setCell | with_reducible refine Nat.le_trans ?_ (Below.size (by assumption))))
    have HB_18 : Hid (Below w.heap.size w x17) := HB_16.out.trans (bw18.mono HB_16.out.size)
    have ML_18 : Hid (InMem x17 A1 A2 A3 xs ys rs) := ML_16.out.ext bw18
    have L_18 : Hid (Blk x17 w.heap.size 25 #[.slice A1 xs.length c1, .slice A2 ys.length c2, .slice A3 rs.length c3]) := L_16.out.below_ bw18 L_16.out.lt
    have ME_18 : Hid (InMem x17 E1 E2 E3 xs ys rs) := ME_16.out.ext bw18
    have I_18 : Hid (Blk x17 x5.heap.size 25 #[.slice E1 xs.length e1, .slice E2 ys.length e2, .slice E3 rs.length e3]) := I_16.out.below_ bw18 I_16.out.lt
    have Ma_18 : Hid (InMem x17 B1 B2 B3 us vs ss) := Ma_16.out.ext bw18
    have Sa_18 : Hid (Sl x17 (.int .i64) X1 v1) := Sa_16.out.ext bw18
    have a_18 : Hid (Blk x17 x9.heap.size 25 #[.slice B1 us.length b1, .slice B2 vs.length b2, .slice B3 ss.length b3]) := a_16.out.below_ bw18 a_16.out.lt
    have Mb_18 : Hid (InMem x17 C1 C2 C3 us vs ss) := Mb_16.out.ext bw18
    have Sb_18 : Hid (Sl x17 (.int .i64) X2 v1) := Sb_16.out.ext bw18
    have b_18 : Hid (Blk x17 x13.heap.size 25 #[.slice C1 us.length k1, .slice C2 vs.length k2, .slice C3 ss.length k3]) := hkV15.out.below_ bw18 hkV15.out.lt
    clear bw18 hx17 HB_16 ML_16 L_16 ME_16 I_16 Ma_16 Sa_16 a_16 Mb_16 Sb_16 hkV15
    go_wp2_with fail
    refine (same_l2 X1 X2 X1c X2c v1 _ Sa_18.out Sb_18.out (by omega)).mono ?_
    rintro e x19 ⟨rfl, hx19⟩
    have bw20 : Below x17.heap.size x17 x19 := (by repeat' (first | with_reducible exact Below.refl _ _ | with_reducible assumption | with_reducible apply Below.drew | with_reducible apply below_drewN | with_reducible apply Below.alloc | with_reducible apply Below.setCell | (with_reducible refine Below.trans ?_ (Below.mono (by assumption) ?_)) | (simp; done) | (simp; omega) | omega | with_reducible apply le_size_alloc | with_reducible apply le_size_drewN | with_reducible apply le_size_drew | with_reducible apply le_size_setCell | with_reducible refine Nat.le_trans ?_ (Below.size (by assumption))))
    have HB_20 : Hid (Below w.heap.size w x19) := HB_18.out.trans (bw20.mono HB_18.out.size)
    have ML_20 : Hid (InMem x19 A1 A2 A3 xs ys rs) := ML_18.out.ext bw20
    have L_20 : Hid (Blk x19 w.heap.size 25 #[.slice A1 xs.length c1, .slice A2 ys.length c2, .slice A3 rs.length c3]) := L_18.out.below_ bw20 L_18.out.lt
    have ME_20 : Hid (InMem x19 E1 E2 E3 xs ys rs) := ME_18.out.ext bw20
    have I_20 : Hid (Blk x19 x5.heap.size 25 #[.slice E1 xs.length e1, .slice E2 ys.length e2, .slice E3 rs.length e3]) := I_18.out.below_ bw20 I_18.out.lt
    have Ma_20 : Hid (InMem x19 B1 B2 B3 us vs ss) := Ma_18.out.ext bw20
    have Sa_20 : Hid (Sl x19 (.int .i64) X1 v1) := Sa_18.out.ext bw20
    have a_20 : Hid (Blk x19 x9.heap.size 25 #[.slice B1 us.length b1, .slice B2 vs.length b2, .slice B3 ss.length b3]) := a_18.out.below_ bw20 a_18.out.lt
    have Mb_20 : Hid (InMem x19 C1 C2 C3 us vs ss) := Mb_18.out.ext bw20
    have Sb_20 : Hid (Sl x19 (.int .i64) X2 v1) := Sb_18.out.ext bw20
    have b_20 : Hid (Blk x19 x13.heap.size 25 #[.slice C1 us.length k1, .slice C2 vs.length k2, .slice C3 ss.length k3]) := b_18.out.below_ bw20 b_18.out.lt
    clear bw20 hx19 HB_18 ML_18 L_18 ME_18 I_18 Ma_18 Sa_18 a_18 Mb_18 Sb_18 b_18
    clear Ma_20
    clear Mb_20
    clear Sa_20
    clear Sb_20
    clear a_20
    clear b_20
    have kI0 : x19.cell? ⟨x5.heap.size, 0, none⟩ = some (.slice E1 xs.length e1) := (I_20.out.cell_ 0).trans (by simp)
    have kI1 : x19.cell? ⟨x5.heap.size, 1, none⟩ = some (.slice E2 ys.length e2) := (I_20.out.cell_ 1).trans (by simp)
    have kI2 : x19.cell? ⟨x5.heap.size, 2, none⟩ = some (.slice E3 rs.length e3) := (I_20.out.cell_ 2).trans (by simp)
    go_wp2_with fail
    refine (First_any E1 E2 E3 e1 e2 e3 xs ys rs T _ ME_20.out).mono ?_
    rw [HFI.out]
    rintro e x21 ⟨rfl, hx21⟩
    clear kI0 kI1 kI2
    have bw22 : Below x19.heap.size x19 x21 := (by repeat' (first | with_reducible exact Below.refl _ _ | with_reducible assumption | with_reducible apply Below.drew | with_reducible apply below_drewN | with_reducible apply Below.alloc | with_reducible apply Below.setCell | (with_reducible refine Below.trans ?_ (Below.mono (by assumption) ?_)) | (simp; done) | (simp; omega) | omega | with_reducible apply le_size_alloc | with_reducible apply le_size_drewN | with_reducible apply le_size_drew | with_reducible apply le_size_setCell | with_reducible refine Nat.le_trans ?_ (Below.size (by assumption))))
    have HB_22 : Hid (Below w.heap.size w x21) := HB_20.out.trans (bw22.mono HB_20.out.size)
    have ML_22 : Hid (InMem x21 A1 A2 A3 xs ys rs) := ML_20.out.ext bw22
    have L_22 : Hid (Blk x21 w.heap.size 25 #[.slice A1 xs.length c1, .slice A2 ys.length c2, .slice A3 rs.length c3]) := L_20.out.below_ bw22 L_20.out.lt
    have ME_22 : Hid (InMem x21 E1 E2 E3 xs ys rs) := ME_20.out.ext bw22
    have I_22 : Hid (Blk x21 x5.heap.size 25 #[.slice E1 xs.length e1, .slice E2 ys.length e2, .slice E3 rs.length e3]) := I_20.out.below_ bw22 I_20.out.lt
    clear bw22 hx21 HB_20 ML_20 L_20 ME_20 I_20
    dsimp only
    have kL0 : x21.cell? ⟨w.heap.size, 0, none⟩ = some (.slice A1 xs.length c1) := (L_22.out.cell_ 0).trans (by simp)
    have kL1 : x21.cell? ⟨w.heap.size, 1, none⟩ = some (.slice A2 ys.length c2) := (L_22.out.cell_ 1).trans (by simp)
    have kL2 : x21.cell? ⟨w.heap.size, 2, none⟩ = some (.slice A3 rs.length c3) := (L_22.out.cell_ 2).trans (by simp)
    go_wp2_with fail
    refine (RFirst_any A1 A2 A3 c1 c2 c3 xs ys rs T _ ML_22.out).mono ?_
    rw [HFI.out]
    rintro e x23 ⟨rfl, hx23⟩
    clear kL0 kL1 kL2
    have bw24 : Below x21.heap.size x21 x23 := (by repeat' (first | with_reducible exact Below.refl _ _ | with_reducible assumption | with_reducible apply Below.drew | with_reducible apply below_drewN | with_reducible apply Below.alloc | with_reducible apply Below.setCell | (with_reducible refine Below.trans ?_ (Below.mono (by assumption) ?_)) | (simp; done) | (simp; omega) | omega | with_reducible apply le_size_alloc | with_reducible apply le_size_drewN | with_reducible apply le_size_drew | with_reducible apply le_size_setCell | with_reducible refine Nat.le_trans ?_ (Below.size (by assumption))))
    have HB_24 : Hid (Below w.heap.size w x23) := HB_22.out.trans (bw24.mono HB_22.out.size)
    have ML_24 : Hid (InMem x23 A1 A2 A3 xs ys rs) := ML_22.out.ext bw24
    have L_24 : Hid (Blk x23 w.heap.size 25 #[.slice A1 xs.length c1, .slice A2 ys.length c2, .slice A3 rs.length c3]) := L_22.out.below_ bw24 L_22.out.lt
    have ME_24 : Hid (InMem x23 E1 E2 E3 xs ys rs) := ME_22.out.ext bw24
    have I_24 : Hid (Blk x23 x5.heap.size 25 #[.slice E1 xs.length e1, .slice E2 ys.length e2, .slice E3 rs.length e3]) := I_22.out.below_ bw24 I_22.out.lt
    clear bw24 hx23 HB_22 ML_22 L_22 ME_22 I_22
    dsimp only
    have kI0 : x23.cell? ⟨x5.heap.size, 0, none⟩ = some (.slice E1 xs.length e1) := (I_24.out.cell_ 0).trans (by simp)
    have kI1 : x23.cell? ⟨x5.heap.size, 1, none⟩ = some (.slice E2 ys.length e2) := (I_24.out.cell_ 1).trans (by simp)
    have kI2 : x23.cell? ⟨x5.heap.size, 2, none⟩ = some (.slice E3 rs.length e3) := (I_24.out.cell_ 2).trans (by simp)
    go_wp2_with fail
    refine (Victims_any E1 E2 E3 e1 e2 e3 xs ys rs T _ ME_24.out).mono ?_
    rw [HVI.out]
    rintro e x25 ⟨X3, X3c, rfl, hsX3, hx25⟩
    clear kI0 kI1 kI2
    have bw26 : Below x23.heap.size x23 x25 := (by repeat' (first | with_reducible exact Below.refl _ _ | with_reducible assumption | with_reducible apply Below.drew | with_reducible apply below_drewN | with_reducible apply Below.alloc | with_reducible apply Below.setCell | (with_reducible refine Below.trans ?_ (Below.mono (by assumption) ?_)) | (simp; done) | (simp; omega) | omega | with_reducible apply le_size_alloc | with_reducible apply le_size_drewN | with_reducible apply le_size_drew | with_reducible apply le_size_setCell | with_reducible refine Nat.le_trans ?_ (Below.size (by assumption))))
    have HB_26 : Hid (Below w.heap.size w x25) := HB_24.out.trans (bw26.mono HB_24.out.size)
    have ML_26 : Hid (InMem x25 A1 A2 A3 xs ys rs) := ML_24.out.ext bw26
    have L_26 : Hid (Blk x25 w.heap.size 25 #[.slice A1 xs.length c1, .slice A2 ys.length c2, .slice A3 rs.length c3]) := L_24.out.below_ bw26 L_24.out.lt
    have ME_26 : Hid (InMem x25 E1 E2 E3 xs ys rs) := ME_24.out.ext bw26
    have I_26 : Hid (Blk x25 x5.heap.size 25 #[.slice E1 xs.length e1, .slice E2 ys.length e2, .slice E3 rs.length e3]) := I_24.out.below_ bw26 I_24.out.lt
    clear bw26 hx25 HB_24 ML_24 L_24 ME_24 I_24
    dsimp only at hsX3 ⊢
    have SX3 := Lib.hid hsX3
    clear hsX3
    have kL0 : x25.cell? ⟨w.heap.size, 0, none⟩ = some (.slice A1 xs.length c1) := (L_26.out.cell_ 0).trans (by simp)
    have kL1 : x25.cell? ⟨w.heap.size, 1, none⟩ = some (.slice A2 ys.length c2) := (L_26.out.cell_ 1).trans (by simp)
    have kL2 : x25.cell? ⟨w.heap.size, 2, none⟩ = some (.slice A3 rs.length c3) := (L_26.out.cell_ 2).trans (by simp)
    go_wp2_with fail
    refine (RVictims_any A1 A2 A3 c1 c2 c3 xs ys rs T _ ML_26.out).mono ?_
    rw [HVI.out]
    rintro e x27 ⟨X4, X4c, rfl, hsX4, hx27⟩
    clear kL0 kL1 kL2
    have bw28 : Below x25.heap.size x25 x27 := (by repeat' (first | with_reducible exact Below.refl _ _ | with_reducible assumption | with_reducible apply Below.drew | with_reducible apply below_drewN | with_reducible apply Below.alloc | with_reducible apply Below.setCell | (with_reducible refine Below.trans ?_ (Below.mono (by assumption) ?_)) | (simp; done) | (simp; omega) | omega | with_reducible apply le_size_alloc | with_reducible apply le_size_drewN | with_reducible apply le_size_drew | with_reducible apply le_size_setCell | with_reducible refine Nat.le_trans ?_ (Below.size (by assumption))))
    have HB_28 : Hid (Below w.heap.size w x27) := HB_26.out.trans (bw28.mono HB_26.out.size)
    have ML_28 : Hid (InMem x27 A1 A2 A3 xs ys rs) := ML_26.out.ext bw28
    have L_28 : Hid (Blk x27 w.heap.size 25 #[.slice A1 xs.length c1, .slice A2 ys.length c2, .slice A3 rs.length c3]) := L_26.out.below_ bw28 L_26.out.lt
    have ME_28 : Hid (InMem x27 E1 E2 E3 xs ys rs) := ME_26.out.ext bw28
    have I_28 : Hid (Blk x27 x5.heap.size 25 #[.slice E1 xs.length e1, .slice E2 ys.length e2, .slice E3 rs.length e3]) := I_26.out.below_ bw28 I_26.out.lt
    have S3_28 : Hid (Sl x27 (.int .i64) X3 v2) := SX3.out.ext bw28
    clear bw28 hx27 HB_26 ML_26 L_26 ME_26 I_26 SX3
    dsimp only at hsX4 ⊢
    have SX4 := Lib.hid hsX4
    clear hsX4
    go_wp2_with fail
    refine (same_l2 X3 X4 X3c X4c v2 _ S3_28.out SX4.out (by omega)).mono ?_
    rintro e x29 ⟨rfl, hx29⟩
    have bw30 : Below x27.heap.size x27 x29 := (by repeat' (first | with_reducible exact Below.refl _ _ | with_reducible assumption | with_reducible apply Below.drew | with_reducible apply below_drewN | with_reducible apply Below.alloc | with_reducible apply Below.setCell | (with_reducible refine Below.trans ?_ (Below.mono (by assumption) ?_)) | (simp; done) | (simp; omega) | omega | with_reducible apply le_size_alloc | with_reducible apply le_size_drewN | with_reducible apply le_size_drew | with_reducible apply le_size_setCell | with_reducible refine Nat.le_trans ?_ (Below.size (by assumption))))
    have HB_30 : Hid (Below w.heap.size w x29) := HB_28.out.trans (bw30.mono HB_28.out.size)
    have ML_30 : Hid (InMem x29 A1 A2 A3 xs ys rs) := ML_28.out.ext bw30
    have L_30 : Hid (Blk x29 w.heap.size 25 #[.slice A1 xs.length c1, .slice A2 ys.length c2, .slice A3 rs.length c3]) := L_28.out.below_ bw30 L_28.out.lt
    have ME_30 : Hid (InMem x29 E1 E2 E3 xs ys rs) := ME_28.out.ext bw30
    have I_30 : Hid (Blk x29 x5.heap.size 25 #[.slice E1 xs.length e1, .slice E2 ys.length e2, .slice E3 rs.length e3]) := I_28.out.below_ bw30 I_28.out.lt
    have S3_30 : Hid (Sl x29 (.int .i64) X3 v2) := S3_28.out.ext bw30
    have S4_30 : Hid (Sl x29 (.int .i64) X4 v2) := SX4.out.ext bw30
    clear bw30 hx29 HB_28 ML_28 L_28 ME_28 I_28 S3_28 SX4
    clear S3_30
    clear S4_30
    have kI0 : x29.cell? ⟨x5.heap.size, 0, none⟩ = some (.slice E1 xs.length e1) := (I_30.out.cell_ 0).trans (by simp)
    have kI1 : x29.cell? ⟨x5.heap.size, 1, none⟩ = some (.slice E2 ys.length e2) := (I_30.out.cell_ 1).trans (by simp)
    have kI2 : x29.cell? ⟨x5.heap.size, 2, none⟩ = some (.slice E3 rs.length e3) := (I_30.out.cell_ 2).trans (by simp)
    go_wp2_with fail
    refine (Safe_any E1 E2 E3 e1 e2 e3 xs ys rs T n _ ME_30.out).mono ?_
    rw [HSA.out]
    rintro e x31 ⟨X5, X5c, rfl, hsX5, hx31⟩
    clear kI0 kI1 kI2
    have bw32 : Below x29.heap.size x29 x31 := (by repeat' (first | with_reducible exact Below.refl _ _ | with_reducible assumption | with_reducible apply Below.drew | with_reducible apply below_drewN | with_reducible apply Below.alloc | with_reducible apply Below.setCell | (with_reducible refine Below.trans ?_ (Below.mono (by assumption) ?_)) | (simp; done) | (simp; omega) | omega | with_reducible apply le_size_alloc | with_reducible apply le_size_drewN | with_reducible apply le_size_drew | with_reducible apply le_size_setCell | with_reducible refine Nat.le_trans ?_ (Below.size (by assumption))))
    have HB_32 : Hid (Below w.heap.size w x31) := HB_30.out.trans (bw32.mono HB_30.out.size)
    have ML_32 : Hid (InMem x31 A1 A2 A3 xs ys rs) := ML_30.out.ext bw32
    have L_32 : Hid (Blk x31 w.heap.size 25 #[.slice A1 xs.length c1, .slice A2 ys.length c2, .slice A3 rs.length c3]) := L_30.out.below_ bw32 L_30.out.lt
    have ME_32 : Hid (InMem x31 E1 E2 E3 xs ys rs) := ME_30.out.ext bw32
    have I_32 : Hid (Blk x31 x5.heap.size 25 #[.slice E1 xs.length e1, .slice E2 ys.length e2, .slice E3 rs.length e3]) := I_30.out.below_ bw32 I_30.out.lt
    clear bw32 hx31 HB_30 ML_30 L_30 ME_30 I_30
    dsimp only at hsX5 ⊢
    have SX5 := Lib.hid hsX5
    clear hsX5
    have kL0 : x31.cell? ⟨w.heap.size, 0, none⟩ = some (.slice A1 xs.length c1) := (L_32.out.cell_ 0).trans (by simp)
    have kL1 : x31.cell? ⟨w.heap.size, 1, none⟩ = some (.slice A2 ys.length c2) := (L_32.out.cell_ 1).trans (by simp)
    have kL2 : x31.cell? ⟨w.heap.size, 2, none⟩ = some (.slice A3 rs.length c3) := (L_32.out.cell_ 2).trans (by simp)
    go_wp2_with fail
    refine (RSafe_any A1 A2 A3 c1 c2 c3 xs ys rs T n _ ML_32.out).mono ?_
    rw [HSA.out]
    rintro e x33 ⟨X6, X6c, rfl, hsX6, hx33⟩
    clear kL0 kL1 kL2
    have bw34 : Below x31.heap.size x31 x33 := (by repeat' (first | with_reducible exact Below.refl _ _ | with_reducible assumption | with_reducible apply Below.drew | with_reducible apply below_drewN | with_reducible apply Below.alloc | with_reducible apply Below.setCell | (with_reducible refine Below.trans ?_ (Below.mono (by assumption) ?_)) | (simp; done) | (simp; omega) | omega | with_reducible apply le_size_alloc | with_reducible apply le_size_drewN | with_reducible apply le_size_drew | with_reducible apply le_size_setCell | with_reducible refine Nat.le_trans ?_ (Below.size (by assumption))))
    have HB_34 : Hid (Below w.heap.size w x33) := HB_32.out.trans (bw34.mono HB_32.out.size)
    have ML_34 : Hid (InMem x33 A1 A2 A3 xs ys rs) := ML_32.out.ext bw34
    have L_34 : Hid (Blk x33 w.heap.size 25 #[.slice A1 xs.length c1, .slice A2 ys.length c2, .slice A3 rs.length c3]) := L_32.out.below_ bw34 L_32.out.lt
    have ME_34 : Hid (InMem x33 E1 E2 E3 xs ys rs) := ME_32.out.ext bw34
    have I_34 : Hid (Blk x33 x5.heap.size 25 #[.slice E1 xs.length e1, .slice E2 ys.length e2, .slice E3 rs.length e3]) := I_32.out.below_ bw34 I_32.out.lt
    have S5_34 : Hid (Sl x33 (.int .i64) X5 v3) := SX5.out.ext bw34
    clear bw34 hx33 HB_32 ML_32 L_32 ME_32 I_32 SX5
    dsimp only at hsX6 ⊢
    have SX6 := Lib.hid hsX6
    clear hsX6
    go_wp2_with fail
    refine (same_l2 X5 X6 X5c X6c v3 _ S5_34.out SX6.out (by omega)).mono ?_
    rintro e x35 ⟨rfl, hx35⟩
    have bw36 : Below x33.heap.size x33 x35 := (by repeat' (first | with_reducible exact Below.refl _ _ | with_reducible assumption | with_reducible apply Below.drew | with_reducible apply below_drewN | with_reducible apply Below.alloc | with_reducible apply Below.setCell | (with_reducible refine Below.trans ?_ (Below.mono (by assumption) ?_)) | (simp; done) | (simp; omega) | omega | with_reducible apply le_size_alloc | with_reducible apply le_size_drewN | with_reducible apply le_size_drew | with_reducible apply le_size_setCell | with_reducible refine Nat.le_trans ?_ (Below.size (by assumption))))
    have HB_36 : Hid (Below w.heap.size w x35) := HB_34.out.trans (bw36.mono HB_34.out.size)
    have ML_36 : Hid (InMem x35 A1 A2 A3 xs ys rs) := ML_34.out.ext bw36
    have L_36 : Hid (Blk x35 w.heap.size 25 #[.slice A1 xs.length c1, .slice A2 ys.length c2, .slice A3 rs.length c3]) := L_34.out.below_ bw36 L_34.out.lt
    have ME_36 : Hid (InMem x35 E1 E2 E3 xs ys rs) := ME_34.out.ext bw36
    have I_36 : Hid (Blk x35 x5.heap.size 25 #[.slice E1 xs.length e1, .slice E2 ys.length e2, .slice E3 rs.length e3]) := I_34.out.below_ bw36 I_34.out.lt
    have S5_36 : Hid (Sl x35 (.int .i64) X5 v3) := S5_34.out.ext bw36
    have S6_36 : Hid (Sl x35 (.int .i64) X6 v3) := SX6.out.ext bw36
    clear bw36 hx35 HB_34 ML_34 L_34 ME_34 I_34 S5_34 SX6
    clear S5_36
    clear S6_36
    have kI0 : x35.cell? ⟨x5.heap.size, 0, none⟩ = some (.slice E1 xs.length e1) := (I_36.out.cell_ 0).trans (by simp)
    have kI1 : x35.cell? ⟨x5.heap.size, 1, none⟩ = some (.slice E2 ys.length e2) := (I_36.out.cell_ 1).trans (by simp)
    have kI2 : x35.cell? ⟨x5.heap.size, 2, none⟩ = some (.slice E3 rs.length e3) := (I_36.out.cell_ 2).trans (by simp)
    have kL0 : x35.cell? ⟨w.heap.size, 0, none⟩ = some (.slice A1 xs.length c1) := (L_36.out.cell_ 0).trans (by simp)
    have kL1 : x35.cell? ⟨w.heap.size, 1, none⟩ = some (.slice A2 ys.length c2) := (L_36.out.cell_ 1).trans (by simp)
    have kL2 : x35.cell? ⟨w.heap.size, 2, none⟩ = some (.slice A3 rs.length c3) := (L_36.out.cell_ 2).trans (by simp)
    go_wp2_with fail
    refine (same_lists E1 E2 E3 A1 A2 A3 e1 e2 e3 c1 c2 c3 xs ys rs _ ME_36.out ML_36.out (by omega) (by omega) (by omega)).mono ?_
    rintro e x37 ⟨rfl, hx37⟩
    clear kI0 kI1 kI2 kL0 kL1 kL2
    have bw38 : Below x35.heap.size x35 x37 := (by repeat' (first | with_reducible exact Below.refl _ _ | with_reducible assumption | with_reducible apply Below.drew | with_reducible apply below_drewN | with_reducible apply Below.alloc | with_reducible apply Below.setCell | (with_reducible refine Below.trans ?_ (Below.mono (by assumption) ?_)) | (simp; done) | (simp; omega) | omega | with_reducible apply le_size_alloc | with_reducible apply le_size_drewN | with_reducible apply le_size_drew | with_reducible apply le_size_setCell | with_reducible refine Nat.le_trans ?_ (Below.size (by assumption))))
    have HB_38 : Hid (Below w.heap.size w x37) := HB_36.out.trans (bw38.mono HB_36.out.size)
    have ML_38 : Hid (InMem x37 A1 A2 A3 xs ys rs) := ML_36.out.ext bw38
    have L_38 : Hid (Blk x37 w.heap.size 25 #[.slice A1 xs.length c1, .slice A2 ys.length c2, .slice A3 rs.length c3]) := L_36.out.below_ bw38 L_36.out.lt
    have ME_38 : Hid (InMem x37 E1 E2 E3 xs ys rs) := ME_36.out.ext bw38
    have I_38 : Hid (Blk x37 x5.heap.size 25 #[.slice E1 xs.length e1, .slice E2 ys.length e2, .slice E3 rs.length e3]) := I_36.out.below_ bw38 I_36.out.lt
    clear bw38 hx37 HB_36 ML_36 L_36 ME_36 I_36
    go_wp2_with fail
    refine (awake_any _).mono ?_
    rintro e x39 ⟨rfl, hx39⟩
    have bw40 : Below x37.heap.size x37 x39 := (by repeat' (first | with_reducible exact Below.refl _ _ | with_reducible assumption | with_reducible apply Below.drew | with_reducible apply below_drewN | with_reducible apply Below.alloc | with_reducible apply Below.setCell | (with_reducible refine Below.trans ?_ (Below.mono (by assumption) ?_)) | (simp; done) | (simp; omega) | omega | with_reducible apply le_size_alloc | with_reducible apply le_size_drewN | with_reducible apply le_size_drew | with_reducible apply le_size_setCell | with_reducible refine Nat.le_trans ?_ (Below.size (by assumption))))
    have HB_40 : Hid (Below w.heap.size w x39) := HB_38.out.trans (bw40.mono HB_38.out.size)
    have ML_40 : Hid (InMem x39 A1 A2 A3 xs ys rs) := ML_38.out.ext bw40
    have L_40 : Hid (Blk x39 w.heap.size 25 #[.slice A1 xs.length c1, .slice A2 ys.length c2, .slice A3 rs.length c3]) := L_38.out.below_ bw40 L_38.out.lt
    have ME_40 : Hid (InMem x39 E1 E2 E3 xs ys rs) := ME_38.out.ext bw40
    have I_40 : Hid (Blk x39 x5.heap.size 25 #[.slice E1 xs.length e1, .slice E2 ys.length e2, .slice E3 rs.length e3]) := I_38.out.below_ bw40 I_38.out.lt
    clear bw40 hx39 HB_38 ML_38 L_38 ME_38 I_38
    go_wp2_with fail
    go_ret
    exact ⟨by first | rfl | simp, HB_40.out⟩

set_option maxRecDepth 100000 in
theorem scanSweeps_lifted (os : Os) (started : os.Started) (H : Type) (enc : TypeId × Value → H) :
    ReturnsInHanded {} Try.checked os 4 .any (Rows.scanSweepsSpec.pre6 enc Try.prog Try.f4 Rows.scanSweepsRow.domain false) (Rows.scanSweepsSpec.post enc Try.prog Try.f4 false true false false) := by
  refine returnsInHanded_of_change (C := Try.checked) own started (by kernel_rfl) Try.func4
    (ChangeSpec.witness6 (enc := enc) (C := Try.checked) false ⟨#[], #[.agg #[.slice none 0 0, .slice none 0 0, .slice none 0 0], .int .i64 0, .int .i64 0], []⟩ 8 (by kernel_rfl) (by kernel_rfl) (by kernel_rfl) (by kernel_rfl)) ?_
  intro W base args ds gs before hval0 hW hcnd _
  have hval : ∀ (j : Nat) t v, Try.f4.params[j]? = some t → args[j]? = some v → Value.okWide Try.prog W .any base t v := hval0
  have hW' := hW
  obtain ⟨p, q, hA0, hV, rfl, hfz, hnd⟩ := hW
  have hA : DataW.TrodAll enc Try.prog W 0 (fun _ => true) true Try.f4.params.toList args.toList ds p := hA0
  rw [Try.params4] at hA hval
  obtain ⟨v0, vs0, d0, ds0, p0, q0, hargs, rfl, rfl, h0, r0⟩ := trodAll_cons hA
  obtain ⟨v1, vs1, d1, ds1, p1, q1, rfl, rfl, rfl, h1, r1⟩ := trodAll_cons r0
  obtain ⟨v2, vs2, d2, ds2, p2, q2, rfl, rfl, rfl, h2, r2⟩ := trodAll_cons r1
  obtain ⟨rfl, rfl, rfl⟩ := trodAll_nil r2
  obtain rfl : args = #[v0, v1, v2] := by cases args; simp_all
  obtain ⟨rfl, rfl⟩ := trodVars_none hV
  obtain ⟨c0, c1, c2, y0, y1, y2, m0, rfl, rfl, rfl, hy0, hy1, hy2⟩ := open_agg3 Try.underlying25 (by kernel_rfl) (by kernel_rfl) (hval 0 25 v0 rfl rfl) h0
  obtain ⟨AL0, kL0, aL0, rfl, sL0, wL0, lL0⟩ := open_cellsI Try.underlying22 Try.underlying3 (by kernel_rfl) hy0
  obtain ⟨AL1, kL1, aL1, rfl, sL1, wL1, lL1⟩ := open_cellsI Try.underlying22 Try.underlying3 (by kernel_rfl) hy1
  obtain ⟨AL2, kL2, aL2, rfl, sL2, lL2⟩ := open_cellsB Try.underlying23 Try.underlying4 (by kernel_rfl) hy2
  obtain ⟨a1, rfl, rfl, rfl, w1⟩ := open_int Try.underlying3 (hval 1 3 v1 rfl rfl) h1
  obtain ⟨a2, rfl, rfl, rfl, w2⟩ := open_int Try.underlying3 (hval 2 3 v2 rfl rfl) h2
  clear hA0 hval0
  refine (scanSweeps_walk AL0 AL1 AL2 kL0 kL1 kL2 aL0 aL1 aL2 a1 a2 W sL0 sL1 sL2 wL0 wL1 lL0 lL1 lL2 w1 w2).mono fun e W' ⟨he, hb⟩ => ⟨_, he, ?_⟩
  exact law_post laidOut (s := Rows.scanSweepsSpec) (B := 4) rfl rfl Try.underlying4 (by decide +kernel) hW' rfl hb

theorem scanSweeps_holds : Rows.ScanSweepsSaid :=
  OpenClaim.holds_of_wide 4 Try.f4 rfl rfl rfl rfl rfl rfl rfl ⟨rfl, rfl, rfl, rfl, rfl⟩ rfl rfl rfl rfl rfl (by kernel_rfl) Try.func4 (by kernel_rfl)
    (of_decide_eq_true (by kernel_rfl)) (by unfold Func.isWrapper; first | (rw [if_pos (by decide +kernel)]; kernel_rfl) | (rw [if_neg (by decide +kernel)]; exact ⟨rfl, rfl⟩))
    (fun os started H enc _ => scanSweeps_lifted os started H enc)

end Go.Proofs.Ytiobbdfkimpfbaa
