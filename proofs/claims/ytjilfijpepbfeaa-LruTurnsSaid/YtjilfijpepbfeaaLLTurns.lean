/- LruTurns: the statement holds for every lists. Written by gen_turns2.py. -/
import Derived.Test.YtjilfijpepbfeaaLruV
namespace Go.Proofs.Ytjilfijpepbfeaa
open Go.RowKit Go.Maps
open Go.ChangeShapes Go.WideShapes Go.ChangeAt Go.Joins

set_option maxRecDepth 100000 in
set_option maxHeartbeats 4000000 in
theorem lruTurns_walk (Aa Ai Ar : Option Addr) (ca ci cr : Nat) (xs ys : List Int) (rs : List Bool) (w : World) (sa : Sl w (.int .i64) Aa xs) (si : Sl w (.int .i64) Ai ys) (sr : Sl w .bool Ar rs)
    (wa : ∀ x ∈ xs, (Lit.int .i64 x).wf = true) (wi : ∀ x ∈ ys, (Lit.int .i64 x).wf = true) (la0 : xs.length ≤ maxLen) (li0 : ys.length ≤ maxLen) (lr0 : rs.length ≤ maxLen) :
    Calls Try.prog 7 #[.agg #[.slice Aa xs.length ca, .slice Ai ys.length ci, .slice Ar rs.length cr]] w fun e w' => e = .returned (.bool true) ∧ Below w.heap.size w w' := by
  have la : xs.length ≤ 9223372036854775807 := by unfold maxLen at la0; exact la0
  have li : ys.length ≤ 9223372036854775807 := by unfold maxLen at li0; exact li0
  have lr : rs.length ≤ 9223372036854775807 := by unfold maxLen at lr0; exact lr0
  by_cases hli : xs.length ≤ 260 ∧ ys.length ≤ 260 ∧ rs.length ≤ 260
  · have hdec := decide_eq_true hli
    obtain ⟨l1, l2, l3⟩ := hli
    have hm : InMem w Aa Ai Ar xs ys rs := ⟨sa, si, sr, by omega, by omega, by omega, wa, wi⟩
    have HM := Lib.hid hm; have HDEC := Lib.hid hdec
    obtain ⟨⟨da, db, dr, dz⟩, hD⟩ : ∃ R : LR, demS xs ys rs = R := ⟨_, rfl⟩
    obtain ⟨⟨pa, pb, pr, pz⟩, hP⟩ : ∃ R : LR, proS xs ys rs = R := ⟨_, rfl⟩
    have sD := demS_small xs ys rs; have sP := proS_small xs ys rs
    rw [hD] at sD; rw [hP] at sP
    have D1 : da.length ≤ 1000 := sD.x; have D2 : db.length ≤ 1000 := sD.y; have D3 : dr.length ≤ 1000 := sD.r
    have P1 : pa.length ≤ 1000 := sP.x; have P2 : pb.length ≤ 1000 := sP.y; have P3 : pr.length ≤ 1000 := sP.r
    obtain ⟨os, hO⟩ : ∃ os, ordL xs ys rs = os := ⟨_, rfl⟩
    have sO := ordL_small xs ys rs
    rw [hO] at sO
    obtain ⟨n1, hn1⟩ : ∃ n, (lastV xs ys rs).1 = n := ⟨_, rfl⟩
    obtain ⟨n2, hn2⟩ : ∃ n, (lastV xs ys rs).2 = n := ⟨_, rfl⟩
    obtain ⟨df, hdf⟩ : ∃ n, demF xs ys rs = n := ⟨_, rfl⟩
    obtain ⟨pf, hpf⟩ : ∃ n, proF xs ys rs = n := ⟨_, rfl⟩
    obtain ⟨ck, hck⟩ : ∃ n, lruChk xs ys rs = n := ⟨_, rfl⟩
    have HD := Lib.hid hD; have HP := Lib.hid hP; have HO := Lib.hid hO; have HN1 := Lib.hid hn1; have HN2 := Lib.hid hn2; have HDF := Lib.hid hdf; have HPF := Lib.hid hpf; have HCK := Lib.hid hck
    clear hD hP hO hn1 hn2 hdf hpf hck sD sP
    clear sa si sr wa wi hm hdec
    go_enter Try.func7, Try.ntmps7
    go_wp2_with fail
    refine (light_any _ _ _ _ _ _ _ _ _ _ la li lr).mono ?_
    rw [HDEC.out]
    rintro e w1 ⟨rfl, h1⟩
    have bl1 : Blk w1 w.heap.size 25 #[.slice Aa xs.length ca, .slice Ai ys.length ci, .slice Ar rs.length cr] := (Blk.new_ (w := w) rfl rfl).below_ h1 (by simp)
    have M1 := Lib.hid ((HM.out.ext (w' := w.alloc (.cells #[.slice Aa xs.length ca, .slice Ai ys.length ci, .slice Ar rs.length cr] 25)) (by repeat' (first | with_reducible exact Below.refl _ _ | with_reducible assumption | with_reducible apply Below.drew | with_reducible apply below_drewN | with_reducible apply Below.alloc | with_reducible apply Below.setCell | (with_reducible refine Below.trans ?_ (Below.mono (by assumption) ?_)) | (simp; done) | (simp; omega) | omega | with_reducible apply le_size_alloc | with_reducible apply le_size_drewN | with_reducible apply le_size_drew | with_reducible apply le_size_setCell | refine Nat.le_trans ?_ (Below.size (by assumption))))).ext h1)
    have BL1 := Lib.hid bl1
    have k0 := (bl1.cell_ 0).trans (by simp : _ = some (.slice Aa xs.length ca))
    have k1 := (bl1.cell_ 1).trans (by simp : _ = some (.slice Ai ys.length ci))
    have k2 := (bl1.cell_ 2).trans (by simp : _ = some (.slice Ar rs.length cr))
    clear bl1
    go_wp2_with fail
    refine (OwnLists_any _ _ _ _ _ _ _ _ _ _ M1.out.a M1.out.i M1.out.r (by omega) (by omega) (by omega)).mono ?_
    rintro e w2 ⟨X1, x1, X2, x2, X3, x3, rfl, ox, h2⟩
    obtain ⟨W2, hW2⟩ : ∃ W2, W2 = w2.alloc (.cells #[.slice X1 xs.length x1, .slice X2 ys.length x2, .slice X3 rs.length x3] 25) := ⟨_, rfl⟩
    have hbx : Below w2.heap.size w2 W2 := by rw [hW2]; exact (by repeat' (first | with_reducible exact Below.refl _ _ | with_reducible assumption | with_reducible apply Below.drew | with_reducible apply below_drewN | with_reducible apply Below.alloc | with_reducible apply Below.setCell | (with_reducible refine Below.trans ?_ (Below.mono (by assumption) ?_)) | (simp; done) | (simp; omega) | omega | with_reducible apply le_size_alloc | with_reducible apply le_size_drewN | with_reducible apply le_size_drew | with_reducible apply le_size_setCell | refine Nat.le_trans ?_ (Below.size (by assumption))))
    have sz2 : W2.heap.size = w2.heap.size + 1 := by rw [hW2]; simp
    have hz2 := h2.size
    have hlt := BL1.out.lt
    have mx : InMem w2 X1 X2 X3 xs ys rs := ox.mem (by omega) (by omega) (by omega) HM.out.wa HM.out.wi
    have MX := Lib.hid (mx.ext hbx)
    have ML := Lib.hid ((M1.out.ext h2).ext hbx)
    have BL := Lib.hid ((BL1.out.below_ h2 hlt).below_ hbx (by omega))
    have BX : Hid (Blk W2 w2.heap.size 25 #[.slice X1 xs.length x1, .slice X2 ys.length x2, .slice X3 rs.length x3]) := by rw [hW2]; exact Blk.new_ rfl rfl
    have HW : Hid (Below w.heap.size w W2) := by
      have hb : Below w.heap.size w w1 := (by repeat' (first | with_reducible exact Below.refl _ _ | with_reducible assumption | with_reducible apply Below.drew | with_reducible apply below_drewN | with_reducible apply Below.alloc | with_reducible apply Below.setCell | (with_reducible refine Below.trans ?_ (Below.mono (by assumption) ?_)) | (simp; done) | (simp; omega) | omega | with_reducible apply le_size_alloc | with_reducible apply le_size_drewN | with_reducible apply le_size_drew | with_reducible apply le_size_setCell | refine Nat.le_trans ?_ (Below.size (by assumption))))
      show Below _ _ _
      rw [hW2]
      exact (by repeat' (first | with_reducible exact Below.refl _ _ | with_reducible assumption | with_reducible apply Below.drew | with_reducible apply below_drewN | with_reducible apply Below.alloc | with_reducible apply Below.setCell | (with_reducible refine Below.trans ?_ (Below.mono (by assumption) ?_)) | (simp; done) | (simp; omega) | omega | with_reducible apply le_size_alloc | with_reducible apply le_size_drewN | with_reducible apply le_size_drew | with_reducible apply le_size_setCell | refine Nat.le_trans ?_ (Below.size (by assumption))))
    have zx : w2.heap.size < W2.heap.size := by omega
    have zl : w.heap.size < W2.heap.size := by omega
    have HBW2 : Hid (Below W2.heap.size W2 W2) := Below.refl _ _
    clear mx ox k0 k1 k2 sz2 h1 h2 hbx M1 BL1 hz2 hlt
    have kx0 := ((BX.out.below_ HBW2.out zx).cell_ 0).trans (by simp : _ = some (.slice X1 xs.length x1))
    have kx1 := ((BX.out.below_ HBW2.out zx).cell_ 1).trans (by simp : _ = some (.slice X2 ys.length x2))
    have kx2 := ((BX.out.below_ HBW2.out zx).cell_ 2).trans (by simp : _ = some (.slice X3 rs.length x3))
    go_wp2_with fail
    rw [← hW2]
    clear hW2
    refine (Last_S _ _ _ _ _ _ _ _ _ _ MX.out).mono ?_
    rw [HN1.out, HN2.out]
    rintro e w3 ⟨rfl, h3⟩
    have HBw3 := Lib.hid h3
    have Zw3 : W2.heap.size ≤ w3.heap.size := h3.size
    clear kx0 kx1 kx2 h3
    have kl0 := ((BL.out.below_ HBw3.out zl).cell_ 0).trans (by simp : _ = some (.slice Aa xs.length ca))
    have kl1 := ((BL.out.below_ HBw3.out zl).cell_ 1).trans (by simp : _ = some (.slice Ai ys.length ci))
    have kl2 := ((BL.out.below_ HBw3.out zl).cell_ 2).trans (by simp : _ = some (.slice Ar rs.length cr))
    go_wp2_with fail
    refine (RLast_S _ _ _ _ _ _ _ _ _ _ (ML.out.ext HBw3.out)).mono ?_
    rw [HN1.out, HN2.out]
    rintro e w4 ⟨rfl, h4⟩
    have HBw4 : Hid (Below W2.heap.size W2 w4) := HBw3.out.trans (h4.mono Zw3)
    have Zw4 : W2.heap.size ≤ w4.heap.size := HBw4.out.size
    have zw4 : w3.heap.size ≤ w4.heap.size := h4.size
    clear kl0 kl1 kl2
    have kx0 := ((BX.out.below_ HBw4.out zx).cell_ 0).trans (by simp : _ = some (.slice X1 xs.length x1))
    have kx1 := ((BX.out.below_ HBw4.out zx).cell_ 1).trans (by simp : _ = some (.slice X2 ys.length x2))
    have kx2 := ((BX.out.below_ HBw4.out zx).cell_ 2).trans (by simp : _ = some (.slice X3 rs.length x3))
    go_wp2_with fail
    refine (Demote_S _ _ _ _ _ _ _ _ _ _ (MX.out.ext HBw4.out)).mono ?_
    unfold LPost3
    rw [HD.out, HDF.out]
    rintro e w5 ⟨A1, a1, A2, a2, A3, a3, rfl, m5, t5, h5⟩
    dsimp only at m5 ⊢
    have HBw5 : Hid (Below W2.heap.size W2 w5) := HBw4.out.trans (h5.mono Zw4)
    have Zw5 : W2.heap.size ≤ w5.heap.size := HBw5.out.size
    have zw5 : w4.heap.size ≤ w5.heap.size := h5.size
    obtain ⟨V5, hV5⟩ : ∃ V5, V5 = w5.alloc (.cells #[.slice A1 da.length a1, .slice A2 db.length a2, .slice A3 dr.length a3] 25) := ⟨_, rfl⟩
    have bV5 : Below w5.heap.size w5 V5 := by rw [hV5]; exact (by repeat' (first | with_reducible exact Below.refl _ _ | with_reducible assumption | with_reducible apply Below.drew | with_reducible apply below_drewN | with_reducible apply Below.alloc | with_reducible apply Below.setCell | (with_reducible refine Below.trans ?_ (Below.mono (by assumption) ?_)) | (simp; done) | (simp; omega) | omega | with_reducible apply le_size_alloc | with_reducible apply le_size_drewN | with_reducible apply le_size_drew | with_reducible apply le_size_setCell | refine Nat.le_trans ?_ (Below.size (by assumption))))
    have HBV5 : Hid (Below W2.heap.size W2 V5) := HBw5.out.trans (bV5.mono Zw5)
    have ZV5 : W2.heap.size ≤ V5.heap.size := HBV5.out.size
    have zV5 : w5.heap.size ≤ V5.heap.size := bV5.size
    have BA : Hid (Blk V5 w5.heap.size 25 #[.slice A1 da.length a1, .slice A2 db.length a2, .slice A3 dr.length a3]) := by rw [hV5]; exact Blk.new_ rfl rfl
    have MA := Lib.hid (m5.ext bV5)
    have ltA : w5.heap.size < V5.heap.size := BA.out.lt
    clear kx0 kx1 kx2 m5 t5 h5 bV5
    have y5 : w.heap.size < w5.heap.size := by omega
    have kl0 := ((BL.out.below_ HBw5.out zl).cell_ 0).trans (by simp : _ = some (.slice Aa xs.length ca))
    have kl1 := ((BL.out.below_ HBw5.out zl).cell_ 1).trans (by simp : _ = some (.slice Ai ys.length ci))
    have kl2 := ((BL.out.below_ HBw5.out zl).cell_ 2).trans (by simp : _ = some (.slice Ar rs.length cr))
    go_wp2_with fail
    rw [← hV5]
    clear hV5
    refine (RDemote_S _ _ _ _ _ _ _ _ _ _ (ML.out.ext HBV5.out)).mono ?_
    unfold LPost3
    rw [HD.out, HDF.out]
    rintro e w6 ⟨B1, b1, B2, b2, B3, b3, rfl, m6, t6, h6⟩
    dsimp only at m6 ⊢
    have HBw6 : Hid (Below W2.heap.size W2 w6) := HBV5.out.trans (h6.mono ZV5)
    have Zw6 : W2.heap.size ≤ w6.heap.size := HBw6.out.size
    have zw6 : V5.heap.size ≤ w6.heap.size := h6.size
    obtain ⟨V6, hV6⟩ : ∃ V6, V6 = w6.alloc (.cells #[.slice B1 da.length b1, .slice B2 db.length b2, .slice B3 dr.length b3] 25) := ⟨_, rfl⟩
    have bV6 : Below w6.heap.size w6 V6 := by rw [hV6]; exact (by repeat' (first | with_reducible exact Below.refl _ _ | with_reducible assumption | with_reducible apply Below.drew | with_reducible apply below_drewN | with_reducible apply Below.alloc | with_reducible apply Below.setCell | (with_reducible refine Below.trans ?_ (Below.mono (by assumption) ?_)) | (simp; done) | (simp; omega) | omega | with_reducible apply le_size_alloc | with_reducible apply le_size_drewN | with_reducible apply le_size_drew | with_reducible apply le_size_setCell | refine Nat.le_trans ?_ (Below.size (by assumption))))
    have HBV6 : Hid (Below W2.heap.size W2 V6) := HBw6.out.trans (bV6.mono Zw6)
    have ZV6 : W2.heap.size ≤ V6.heap.size := HBV6.out.size
    have zV6 : w6.heap.size ≤ V6.heap.size := bV6.size
    have BB : Hid (Blk V6 w6.heap.size 25 #[.slice B1 da.length b1, .slice B2 db.length b2, .slice B3 dr.length b3]) := by rw [hV6]; exact Blk.new_ rfl rfl
    have MB := Lib.hid (m6.ext bV6)
    have ltB : w6.heap.size < V6.heap.size := BB.out.lt
    have bA6 := BA.out.below_ h6 ltA
    have y6 : w5.heap.size < w6.heap.size := by omega
    have BA6 := Lib.hid (bA6.below_ bV6 y6); have MA6 := Lib.hid ((MA.out.ext h6).ext bV6)
    clear kl0 kl1 kl2 m6 t6 h6 bV6
    have ka0 := ((bA6).cell_ 0).trans (by simp : _ = some (.slice A1 da.length a1))
    have ka1 := ((bA6).cell_ 1).trans (by simp : _ = some (.slice A2 db.length a2))
    have ka2 := ((bA6).cell_ 2).trans (by simp : _ = some (.slice A3 dr.length a3))
    clear bA6
    go_wp2_with fail
    rw [← hV6]
    clear hV6
    refine (SameLists_any _ _ _ _ _ _ _ _ _ _ _ _ _ _ _ _ _ _ _ MA6.out.a MA6.out.i MA6.out.r MB.out.a MB.out.i MB.out.r (by omega) (by omega) (by omega) (by omega) (by omega) (by omega)).mono ?_
    rw [decide_eq_true (show da = da ∧ db = db ∧ dr = dr from ⟨rfl, rfl, rfl⟩)]
    rintro e w7 ⟨rfl, h7⟩
    have HBw7 : Hid (Below W2.heap.size W2 w7) := HBV6.out.trans (h7.mono ZV6)
    have Zw7 : W2.heap.size ≤ w7.heap.size := HBw7.out.size
    have zw7 : V6.heap.size ≤ w7.heap.size := h7.size
    have BA7 := Lib.hid (BA6.out.below_ h7 BA6.out.lt); have BB7 := Lib.hid (BB.out.below_ h7 ltB)
    have zA6 := BA6.out.lt
    clear ka0 ka1 ka2 h7 MA MA6 MB
    have kx0 := ((BX.out.below_ HBw7.out zx).cell_ 0).trans (by simp : _ = some (.slice X1 xs.length x1))
    have kx1 := ((BX.out.below_ HBw7.out zx).cell_ 1).trans (by simp : _ = some (.slice X2 ys.length x2))
    have kx2 := ((BX.out.below_ HBw7.out zx).cell_ 2).trans (by simp : _ = some (.slice X3 rs.length x3))
    go_wp2_with fail
    refine (Promote_S _ _ _ _ _ _ _ _ _ _ (MX.out.ext HBw7.out)).mono ?_
    unfold LPost3
    rw [HP.out, HPF.out]
    rintro e w8 ⟨A4, a4, A5, a5, A6, a6, rfl, m8, t8, h8⟩
    dsimp only at m8 ⊢
    have HBw8 : Hid (Below W2.heap.size W2 w8) := HBw7.out.trans (h8.mono Zw7)
    have Zw8 : W2.heap.size ≤ w8.heap.size := HBw8.out.size
    have zw8 : w7.heap.size ≤ w8.heap.size := h8.size
    have bA8 := BA7.out.below_ h8 BA7.out.lt
    have BB8 := Lib.hid (BB7.out.below_ h8 BB7.out.lt)
    obtain ⟨V8, hV8⟩ : ∃ V8, V8 = ((w8.setCell ⟨w5.heap.size, 0, none⟩ (.slice A4 pa.length a4)).setCell ⟨w5.heap.size, 1, none⟩ (.slice A5 pb.length a5)).setCell ⟨w5.heap.size, 2, none⟩ (.slice A6 pr.length a6) := ⟨_, rfl⟩
    have HBV8 : Hid (Below W2.heap.size W2 V8) := by
      show Below _ _ _
      rw [hV8]
      exact ((HBw8.out.setCell (by show _ ≤ w5.heap.size; omega) _).setCell (by show _ ≤ w5.heap.size; omega) _).setCell (by show _ ≤ w5.heap.size; omega) _
    have ZV8 : W2.heap.size ≤ V8.heap.size := HBV8.out.size
    have MA8 : Hid (InMem V8 A4 A5 A6 pa pb pr) := by rw [hV8]; exact ((m8.far_ t8 (by omega) _ _).far_ t8 (by omega) _ _).far_ t8 (by omega) _ _
    have BA8 : Hid (Blk V8 w5.heap.size 25 #[.slice A4 pa.length a4, .slice A5 pb.length a5, .slice A6 pr.length a6]) := by
      rw [hV8]
      have := ((bA8.set_ 0 (.slice A4 pa.length a4)).set_ 1 (.slice A5 pb.length a5)).set_ 2 (.slice A6 pr.length a6)
      show Blk _ _ _ _
      simpa using this
    have BB8' : Hid (Blk V8 w6.heap.size 25 #[.slice B1 da.length b1, .slice B2 db.length b2, .slice B3 dr.length b3]) := by
      rw [hV8]
      exact ((BB8.out.far_ (by simp; omega) _).far_ (by simp; omega) _).far_ (by simp; omega) _
    have szV8 : V8.heap.size = w8.heap.size := by rw [hV8]; simp [World.setCell]
    have T8 := Lib.hid t8
    have ka0 := (bA8.cell_ 0).trans (by simp : _ = some (.slice A1 da.length a1))
    have ka1 := (bA8.cell_ 1).trans (by simp : _ = some (.slice A2 db.length a2))
    have ka2 := (bA8.cell_ 2).trans (by simp : _ = some (.slice A3 dr.length a3))
    have ka3 := bA8.frozen_ 0; have ka4 := bA8.frozen_ 1; have ka5 := bA8.frozen_ 2
    have HSZ8 := Lib.hid szV8
    have kl0 := ((BL.out.below_ HBw8.out zl).cell_ 0).trans (by simp : _ = some (.slice Aa xs.length ca))
    have kl1 := ((BL.out.below_ HBw8.out zl).cell_ 1).trans (by simp : _ = some (.slice Ai ys.length ci))
    have kl2 := ((BL.out.below_ HBw8.out zl).cell_ 2).trans (by simp : _ = some (.slice Ar rs.length cr))
    have y8 : ¬ w.heap.size = w5.heap.size := by omega
    have y8' : ¬ w5.heap.size = w.heap.size := by omega
    clear kx0 kx1 kx2 m8 t8 h8 bA8 szV8 BB8
    go_wp2_with fail
    rw [← hV8]
    clear hV8 kl0 kl1 kl2
    refine (RPromote_S _ _ _ _ _ _ _ _ _ _ (ML.out.ext HBV8.out)).mono ?_
    unfold LPost3
    rw [HP.out, HPF.out]
    rintro e w9 ⟨B4, b4, B5, b5, B6, b6, rfl, m9, t9, h9⟩
    dsimp only at m9 ⊢
    have HBw9 : Hid (Below W2.heap.size W2 w9) := HBV8.out.trans (h9.mono ZV8)
    have Zw9 : W2.heap.size ≤ w9.heap.size := HBw9.out.size
    have zw9 : V8.heap.size ≤ w9.heap.size := h9.size
    have e8 := HSZ8.out
    have bB9 := BB8'.out.below_ h9 BB8'.out.lt
    obtain ⟨V9, hV9⟩ : ∃ V9, V9 = ((w9.setCell ⟨w6.heap.size, 0, none⟩ (.slice B4 pa.length b4)).setCell ⟨w6.heap.size, 1, none⟩ (.slice B5 pb.length b5)).setCell ⟨w6.heap.size, 2, none⟩ (.slice B6 pr.length b6) := ⟨_, rfl⟩
    have HBV9 : Hid (Below W2.heap.size W2 V9) := by
      show Below _ _ _
      rw [hV9]
      exact ((HBw9.out.setCell (by show _ ≤ w6.heap.size; omega) _).setCell (by show _ ≤ w6.heap.size; omega) _).setCell (by show _ ≤ w6.heap.size; omega) _
    have ZV9 : W2.heap.size ≤ V9.heap.size := HBV9.out.size
    have MB9 : Hid (InMem V9 B4 B5 B6 pa pb pr) := by rw [hV9]; exact ((m9.far_ t9 (by omega) _ _).far_ t9 (by omega) _ _).far_ t9 (by omega) _ _
    have BB9 : Hid (Blk V9 w6.heap.size 25 #[.slice B4 pa.length b4, .slice B5 pb.length b5, .slice B6 pr.length b6]) := by
      rw [hV9]
      have := ((bB9.set_ 0 (.slice B4 pa.length b4)).set_ 1 (.slice B5 pb.length b5)).set_ 2 (.slice B6 pr.length b6)
      show Blk _ _ _ _
      simpa using this
    have BA9 : Hid (Blk V9 w5.heap.size 25 #[.slice A4 pa.length a4, .slice A5 pb.length a5, .slice A6 pr.length a6]) := by
      rw [hV9]
      exact (((BA8.out.below_ h9 BA8.out.lt).far_ (by simp; omega) _).far_ (by simp; omega) _).far_ (by simp; omega) _
    have MA9 : Hid (InMem V9 A4 A5 A6 pa pb pr) := by rw [hV9]; exact (((MA8.out.ext h9).far_ T8.out (by omega) _ _).far_ T8.out (by omega) _ _).far_ T8.out (by omega) _ _
    have kb0 := (bB9.cell_ 0).trans (by simp : _ = some (.slice B1 da.length b1))
    have kb1 := (bB9.cell_ 1).trans (by simp : _ = some (.slice B2 db.length b2))
    have kb2 := (bB9.cell_ 2).trans (by simp : _ = some (.slice B3 dr.length b3))
    have kb3 := bB9.frozen_ 0; have kb4 := bB9.frozen_ 1; have kb5 := bB9.frozen_ 2
    have kx0 := ((BX.out.below_ HBw9.out zx).cell_ 0).trans (by simp : _ = some (.slice X1 xs.length x1))
    have kx1 := ((BX.out.below_ HBw9.out zx).cell_ 1).trans (by simp : _ = some (.slice X2 ys.length x2))
    have kx2 := ((BX.out.below_ HBw9.out zx).cell_ 2).trans (by simp : _ = some (.slice X3 rs.length x3))
    have y9 : ¬ w2.heap.size = w6.heap.size := by omega
    have y9' : ¬ w6.heap.size = w2.heap.size := by omega
    clear e8 m9 t9 h9 bB9 ka0 ka1 ka2 ka3 ka4 ka5 MA8 BA8 BB8'
    go_wp2_with fail
    rw [← hV9]
    clear hV9 kx0 kx1 kx2 kb0 kb1 kb2 kb3 kb4 kb5
    refine (Order_S _ _ _ _ _ _ _ _ _ _ (MX.out.ext HBV9.out)).mono ?_
    rw [HO.out, HCK.out]
    rintro e wa ⟨O1, o1, rfl, sa, ha⟩
    have HBwa : Hid (Below W2.heap.size W2 wa) := HBV9.out.trans (ha.mono ZV9)
    have Zwa : W2.heap.size ≤ wa.heap.size := HBwa.out.size
    have zwa : V9.heap.size ≤ wa.heap.size := ha.size
    have kl0 := ((BL.out.below_ HBwa.out zl).cell_ 0).trans (by simp : _ = some (.slice Aa xs.length ca))
    have kl1 := ((BL.out.below_ HBwa.out zl).cell_ 1).trans (by simp : _ = some (.slice Ai ys.length ci))
    have kl2 := ((BL.out.below_ HBwa.out zl).cell_ 2).trans (by simp : _ = some (.slice Ar rs.length cr))
    go_wp2_with fail
    clear kl0 kl1 kl2
    refine (ROrder_S _ _ _ _ _ _ _ _ _ _ (ML.out.ext HBwa.out)).mono ?_
    rw [HO.out, HCK.out]
    rintro e wb ⟨O2, o2, rfl, sb, hb⟩
    have HBwb : Hid (Below W2.heap.size W2 wb) := HBwa.out.trans (hb.mono Zwa)
    have Zwb : W2.heap.size ≤ wb.heap.size := HBwb.out.size
    have zwb : wa.heap.size ≤ wb.heap.size := hb.size
    have SA := Lib.hid (sa.ext hb); have SB := Lib.hid sb
    have bAb := (BA9.out.below_ ha BA9.out.lt).below_ hb (by have := BA9.out.lt; omega)
    have bBb := (BB9.out.below_ ha BB9.out.lt).below_ hb (by have := BB9.out.lt; omega)
    have MAb := Lib.hid ((MA9.out.ext ha).ext hb); have MBb := Lib.hid ((MB9.out.ext ha).ext hb)
    have ka0 := ((bAb).cell_ 0).trans (by simp : _ = some (.slice A4 pa.length a4))
    have ka1 := ((bAb).cell_ 1).trans (by simp : _ = some (.slice A5 pb.length a5))
    have ka2 := ((bAb).cell_ 2).trans (by simp : _ = some (.slice A6 pr.length a6))
    have kb0 := ((bBb).cell_ 0).trans (by simp : _ = some (.slice B4 pa.length b4))
    have kb1 := ((bBb).cell_ 1).trans (by simp : _ = some (.slice B5 pb.length b5))
    have kb2 := ((bBb).cell_ 2).trans (by simp : _ = some (.slice B6 pr.length b6))
    clear bAb bBb sa sb ha hb
    go_wp2_with fail
    refine (SameLists_any _ _ _ _ _ _ _ _ _ _ _ _ _ _ _ _ _ _ _ MAb.out.a MAb.out.i MAb.out.r MBb.out.a MBb.out.i MBb.out.r (by omega) (by omega) (by omega) (by omega) (by omega) (by omega)).mono ?_
    rw [decide_eq_true (show pa = pa ∧ pb = pb ∧ pr = pr from ⟨rfl, rfl, rfl⟩)]
    rintro e wc ⟨rfl, hc⟩
    have HBwc : Hid (Below W2.heap.size W2 wc) := HBwb.out.trans (hc.mono Zwb)
    have Zwc : W2.heap.size ≤ wc.heap.size := HBwc.out.size
    have zwc : wb.heap.size ≤ wc.heap.size := hc.size
    clear ka0 ka1 ka2 kb0 kb1 kb2
    go_wp2_with fail
    refine (SameInts_any _ _ _ _ os os _ (SA.out.ext hc) (SB.out.ext hc) (by omega) (by omega)).mono ?_
    rw [decide_eq_true (show os = os from rfl)]
    rintro e wd ⟨rfl, hd⟩
    have HBwd : Hid (Below W2.heap.size W2 wd) := HBwc.out.trans (hd.mono Zwc)
    have Zwd : W2.heap.size ≤ wd.heap.size := HBwd.out.size
    have zwd : wc.heap.size ≤ wd.heap.size := hd.size
    have kl0 := ((BL.out.below_ HBwd.out zl).cell_ 0).trans (by simp : _ = some (.slice Aa xs.length ca))
    have kl1 := ((BL.out.below_ HBwd.out zl).cell_ 1).trans (by simp : _ = some (.slice Ai ys.length ci))
    have kl2 := ((BL.out.below_ HBwd.out zl).cell_ 2).trans (by simp : _ = some (.slice Ar rs.length cr))
    have kx0 := ((BX.out.below_ HBwd.out zx).cell_ 0).trans (by simp : _ = some (.slice X1 xs.length x1))
    have kx1 := ((BX.out.below_ HBwd.out zx).cell_ 1).trans (by simp : _ = some (.slice X2 ys.length x2))
    have kx2 := ((BX.out.below_ HBwd.out zx).cell_ 2).trans (by simp : _ = some (.slice X3 rs.length x3))
    go_wp2_with fail
    refine (SameLists_any _ _ _ _ _ _ _ _ _ _ _ _ _ _ _ _ _ _ _ (MX.out.ext HBwd.out).a (MX.out.ext HBwd.out).i (MX.out.ext HBwd.out).r (ML.out.ext HBwd.out).a (ML.out.ext HBwd.out).i (ML.out.ext HBwd.out).r (by omega) (by omega) (by omega) (by omega) (by omega) (by omega)).mono ?_
    rw [decide_eq_true (show xs = xs ∧ ys = ys ∧ rs = rs from ⟨rfl, rfl, rfl⟩)]
    rintro e we ⟨rfl, he⟩
    have HBwe : Hid (Below W2.heap.size W2 we) := HBwd.out.trans (he.mono Zwd)
    have Zwe : W2.heap.size ≤ we.heap.size := HBwe.out.size
    have zwe : wd.heap.size ≤ we.heap.size := he.size
    clear kl0 kl1 kl2 kx0 kx1 kx2
    go_wp2_with fail
    refine (awake_any _).mono ?_
    rintro e wf ⟨rfl, hf⟩
    have HBwf : Hid (Below W2.heap.size W2 wf) := HBwe.out.trans (hf.mono Zwe)
    have Zwf : W2.heap.size ≤ wf.heap.size := HBwf.out.size
    have zwf : we.heap.size ≤ wf.heap.size := hf.size
    go_wp2
    go_ret
    exact ⟨by first | rfl | simp, HW.out.trans (HBwf.out.mono HW.out.size)⟩
  · have hdec := decide_eq_false hli
    clear sa si sr wa wi hli
    have HDEC := Lib.hid hdec
    clear hdec
    go_enter Try.func7, Try.ntmps7
    go_wp2_with fail
    refine (light_any _ _ _ _ _ _ _ _ _ _ la li lr).mono ?_
    rw [HDEC.out]
    rintro e w1 ⟨rfl, h1⟩
    go_wp2_with fail
    refine (awake_any _).mono ?_
    rintro e w2 ⟨rfl, h2⟩
    go_wp2
    go_ret
    exact ⟨rfl, (by repeat' (first | with_reducible exact Below.refl _ _ | with_reducible assumption | with_reducible apply Below.drew | with_reducible apply below_drewN | with_reducible apply Below.alloc | with_reducible apply Below.setCell | (with_reducible refine Below.trans ?_ (Below.mono (by assumption) ?_)) | (simp; done) | (simp; omega) | omega | with_reducible apply le_size_alloc | with_reducible apply le_size_drewN | with_reducible apply le_size_drew | with_reducible apply le_size_setCell | refine Nat.le_trans ?_ (Below.size (by assumption))))⟩

set_option maxRecDepth 100000 in
theorem lruTurns_lifted (os : Os) (started : os.Started) (H : Type) (enc : TypeId × Value → H) :
    ReturnsInHanded {} Try.checked os 7 .any (Rows.lruTurnsSpec.pre6 enc Try.prog Try.f7 Rows.lruTurnsRow.domain false) (Rows.lruTurnsSpec.post enc Try.prog Try.f7 false true false false) := by
  refine returnsInHanded_of_change (C := Try.checked) own started (by kernel_rfl) Try.func7
    (ChangeSpec.witness6 (enc := enc) (C := Try.checked) false ⟨#[], #[.agg #[.slice none 0 0, .slice none 0 0, .slice none 0 0]], []⟩ 8 (by kernel_rfl) (by kernel_rfl) (by kernel_rfl) (by kernel_rfl)) ?_
  intro W base args ds gs before hval0 hW hcnd _
  have hval : ∀ (j : Nat) t v, Try.f7.params[j]? = some t → args[j]? = some v → Value.okWide Try.prog W .any base t v := hval0
  have hW' := hW
  obtain ⟨p, q, hA0, hV, rfl, hfz, hnd⟩ := hW
  have hA : DataW.TrodAll enc Try.prog W 0 (fun _ => true) true Try.f7.params.toList args.toList ds p := hA0
  rw [Try.params7] at hA hval
  obtain ⟨v0, vs0, d0, ds0, p0, q0, hargs, rfl, rfl, h0, r0⟩ := trodAll_cons hA
  obtain ⟨rfl, rfl, rfl⟩ := trodAll_nil r0
  obtain rfl : args = #[v0] := by cases args; simp_all
  obtain ⟨rfl, rfl⟩ := trodVars_none hV
  obtain ⟨c0, c1, c2, y0, y1, y2, m0, rfl, rfl, rfl, hy0, hy1, hy2⟩ := open_agg3 Try.underlying25 (by kernel_rfl) (by kernel_rfl) (hval 0 25 v0 rfl rfl) h0
  obtain ⟨AL0, kL0, aL0, rfl, sL0, wL0, lL0⟩ := open_cellsI Try.underlying22 Try.underlying3 (by kernel_rfl) hy0
  obtain ⟨AL1, kL1, aL1, rfl, sL1, wL1, lL1⟩ := open_cellsI Try.underlying22 Try.underlying3 (by kernel_rfl) hy1
  obtain ⟨AL2, kL2, aL2, rfl, sL2, lL2⟩ := open_cellsB Try.underlying23 Try.underlying4 (by kernel_rfl) hy2
  clear hA0 hval0
  refine (lruTurns_walk AL0 AL1 AL2 kL0 kL1 kL2 aL0 aL1 aL2 W sL0 sL1 sL2 wL0 wL1 lL0 lL1 lL2).mono fun e W' ⟨he, hb⟩ => ⟨_, he, ?_⟩
  exact law_post laidOut (s := Rows.lruTurnsSpec) (B := 4) rfl rfl Try.underlying4 (by decide +kernel) hW' rfl hb

theorem lruTurns_holds : Rows.LruTurnsSaid :=
  OpenClaim.holds_of_wide 7 Try.f7 rfl rfl rfl rfl rfl rfl rfl ⟨rfl, rfl, rfl, rfl, rfl⟩ rfl rfl rfl rfl rfl (by kernel_rfl) Try.func7 (by kernel_rfl)
    (of_decide_eq_true (by kernel_rfl)) (by unfold Func.isWrapper; first | (rw [if_pos (by decide +kernel)]; kernel_rfl) | (rw [if_neg (by decide +kernel)]; exact ⟨rfl, rfl⟩))
    (fun os started H enc _ => lruTurns_lifted os started H enc)

end Go.Proofs.Ytjilfijpepbfeaa
