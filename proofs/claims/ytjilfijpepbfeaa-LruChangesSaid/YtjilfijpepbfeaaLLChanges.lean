/- LruChanges: the statement holds for every lists and any two numbers. Written by gen_changes.py. -/
import Derived.Test.YtjilfijpepbfeaaLruV
namespace Go.Proofs.Ytjilfijpepbfeaa
open Go.RowKit Go.Maps
open Go.ChangeShapes Go.WideShapes Go.ChangeAt Go.Joins

set_option maxRecDepth 100000 in
set_option maxHeartbeats 4000000 in
theorem lruChanges_walk (Aa Ai Ar : Option Addr) (ca ci cr : Nat) (xs ys : List Int) (rs : List Bool) (f n : Int) (w : World) (sa : Sl w (.int .i64) Aa xs) (si : Sl w (.int .i64) Ai ys) (sr : Sl w .bool Ar rs)
    (wa : ∀ x ∈ xs, (Lit.int .i64 x).wf = true) (wi : ∀ x ∈ ys, (Lit.int .i64 x).wf = true) (la0 : xs.length ≤ maxLen) (li0 : ys.length ≤ maxLen) (lr0 : rs.length ≤ maxLen) (_hf : (Lit.int .i64 f).wf = true) (_hn : (Lit.int .i64 n).wf = true) :
    Calls Try.prog 3 #[.agg #[.slice Aa xs.length ca, .slice Ai ys.length ci, .slice Ar rs.length cr], .int .i64 f, .int .i64 n] w fun e w' => e = .returned (.bool true) ∧ Below w.heap.size w w' := by
  have la : xs.length ≤ 9223372036854775807 := by unfold maxLen at la0; exact la0
  have li : ys.length ≤ 9223372036854775807 := by unfold maxLen at li0; exact li0
  have lr : rs.length ≤ 9223372036854775807 := by unfold maxLen at lr0; exact lr0
  by_cases hli : xs.length ≤ 260 ∧ ys.length ≤ 260 ∧ rs.length ≤ 260
  · have hdec := decide_eq_true hli
    obtain ⟨l1, l2, l3⟩ := hli
    have hm : InMem w Aa Ai Ar xs ys rs := ⟨sa, si, sr, by omega, by omega, by omega, wa, wi⟩
    have HM := Lib.hid hm; have HDEC := Lib.hid hdec
    obtain ⟨⟨na, nb, nr, nz⟩, hNew⟩ : ∃ R : LR, newS n = R := ⟨_, rfl⟩
    have sNew := newS_small n
    rw [hNew] at sNew
    have qNew1 : na.length ≤ 1000 := sNew.x; have qNew2 : nb.length ≤ 1000 := sNew.y; have qNew3 : nr.length ≤ 1000 := sNew.r
    have HNew := Lib.hid hNew
    clear hNew sNew
    obtain ⟨⟨aa, ab, ar, az⟩, hAdd⟩ : ∃ R : LR, addS xs ys rs f = R := ⟨_, rfl⟩
    have sAdd := addS_small xs ys rs f
    rw [hAdd] at sAdd
    have qAdd1 : aa.length ≤ 1000 := sAdd.x; have qAdd2 : ab.length ≤ 1000 := sAdd.y; have qAdd3 : ar.length ≤ 1000 := sAdd.r
    have HAdd := Lib.hid hAdd
    clear hAdd sAdd
    obtain ⟨⟨ra, rb, rr, rz⟩, hRem⟩ : ∃ R : LR, remS xs ys rs f = R := ⟨_, rfl⟩
    have sRem := remS_small xs ys rs f
    rw [hRem] at sRem
    have qRem1 : ra.length ≤ 1000 := sRem.x; have qRem2 : rb.length ≤ 1000 := sRem.y; have qRem3 : rr.length ≤ 1000 := sRem.r
    have HRem := Lib.hid hRem
    clear hRem sRem
    obtain ⟨⟨ta, tb, tr, tz⟩, hTou⟩ : ∃ R : LR, touS xs ys rs f = R := ⟨_, rfl⟩
    have sTou := touS_small xs ys rs f
    rw [hTou] at sTou
    have qTou1 : ta.length ≤ 1000 := sTou.x; have qTou2 : tb.length ≤ 1000 := sTou.y; have qTou3 : tr.length ≤ 1000 := sTou.r
    have HTou := Lib.hid hTou
    clear hTou sTou
    obtain ⟨ck, hck⟩ : ∃ z, lruChk xs ys rs = z := ⟨_, rfl⟩
    obtain ⟨cd, hcd⟩ : ∃ z, lruChd xs ys rs f = z := ⟨_, rfl⟩
    obtain ⟨wh, hwh⟩ : ∃ z, (if cd ≠ 0 then 0 else fWhere xs ys f) = z := ⟨_, rfl⟩
    have HCK := Lib.hid hck; have HCD := Lib.hid hcd; have HWH := Lib.hid hwh
    clear hck hcd hwh
    clear sa si sr wa wi hm hdec
    go_enter Try.func3, Try.ntmps3
    go_wp2_with fail
    refine (light_any _ _ _ _ _ _ _ _ _ _ la li lr).mono ?_
    rw [HDEC.out]
    rintro e w1 ⟨rfl, h1⟩
    have bl1 : Blk w1 w.heap.size 25 #[.slice Aa xs.length ca, .slice Ai ys.length ci, .slice Ar rs.length cr] := (Blk.new_ (w := w) rfl rfl).below_ h1 (by simp)
    have M1 := Lib.hid ((HM.out.ext (w' := w.alloc (.cells #[.slice Aa xs.length ca, .slice Ai ys.length ci, .slice Ar rs.length cr] 25)) (by repeat' (first | with_reducible exact Below.refl _ _ | with_reducible assumption | with_reducible apply Below.drew | with_reducible apply below_drewN | with_reducible apply Below.alloc | with_reducible apply Below.setCell | (with_reducible refine Below.trans ?_ (Below.mono (by assumption) ?_)) | (simp; done) | (simp; omega) | omega | with_reducible apply le_size_alloc | with_reducible apply le_size_drewN | with_reducible apply le_size_drew | with_reducible apply le_size_setCell | refine Nat.le_trans ?_ (Below.size (by assumption))))).ext h1)
    have BL1 := Lib.hid bl1
    have k0 := (bl1.cell_ 0).trans (by simp : _ = some (.slice Aa xs.length ca))
    have k1 := (bl1.cell_ 1).trans (by simp : _ = some (.slice Ai ys.length ci))
    have k2 := (bl1.cell_ 2).trans (by simp : _ = some (.slice Ar rs.length cr))
    clear bl1
    go_wp2_with fail
    refine (OwnLists_any _ _ _ _ _ _ _ _ _ _ M1.out.a M1.out.i M1.out.r (by omega) (by omega) (by omega)).mono ?_
    rintro e w2 ⟨X1, x1, X2, x2, X3, x3, rfl, ox, h2⟩
    obtain ⟨W2, hW2⟩ : ∃ W2, W2 = w2.alloc (.cells #[.slice X1 xs.length x1, .slice X2 ys.length x2, .slice X3 rs.length x3] 25) := ⟨_, rfl⟩
    have hbx : Below w2.heap.size w2 W2 := by rw [hW2]; exact (by repeat' (first | with_reducible exact Below.refl _ _ | with_reducible assumption | with_reducible apply Below.drew | with_reducible apply below_drewN | with_reducible apply Below.alloc | with_reducible apply Below.setCell | (with_reducible refine Below.trans ?_ (Below.mono (by assumption) ?_)) | (simp; done) | (simp; omega) | omega | with_reducible apply le_size_alloc | with_reducible apply le_size_drewN | with_reducible apply le_size_drew | with_reducible apply le_size_setCell | refine Nat.le_trans ?_ (Below.size (by assumption))))
    have sz2 : W2.heap.size = w2.heap.size + 1 := by rw [hW2]; simp
    have hz2 := h2.size
    have hlt := BL1.out.lt
    have mx : InMem w2 X1 X2 X3 xs ys rs := ox.mem (by omega) (by omega) (by omega) HM.out.wa HM.out.wi
    have MX := Lib.hid (mx.ext hbx)
    have ML := Lib.hid ((M1.out.ext h2).ext hbx)
    have BL := Lib.hid ((BL1.out.below_ h2 hlt).below_ hbx (by omega))
    have BX : Hid (Blk W2 w2.heap.size 25 #[.slice X1 xs.length x1, .slice X2 ys.length x2, .slice X3 rs.length x3]) := by rw [hW2]; exact Blk.new_ rfl rfl
    have HW : Hid (Below w.heap.size w W2) := by
      have hb : Below w.heap.size w w1 := (by repeat' (first | with_reducible exact Below.refl _ _ | with_reducible assumption | with_reducible apply Below.drew | with_reducible apply below_drewN | with_reducible apply Below.alloc | with_reducible apply Below.setCell | (with_reducible refine Below.trans ?_ (Below.mono (by assumption) ?_)) | (simp; done) | (simp; omega) | omega | with_reducible apply le_size_alloc | with_reducible apply le_size_drewN | with_reducible apply le_size_drew | with_reducible apply le_size_setCell | refine Nat.le_trans ?_ (Below.size (by assumption))))
      show Below _ _ _
      rw [hW2]
      exact (by repeat' (first | with_reducible exact Below.refl _ _ | with_reducible assumption | with_reducible apply Below.drew | with_reducible apply below_drewN | with_reducible apply Below.alloc | with_reducible apply Below.setCell | (with_reducible refine Below.trans ?_ (Below.mono (by assumption) ?_)) | (simp; done) | (simp; omega) | omega | with_reducible apply le_size_alloc | with_reducible apply le_size_drewN | with_reducible apply le_size_drew | with_reducible apply le_size_setCell | refine Nat.le_trans ?_ (Below.size (by assumption))))
    have zx : w2.heap.size < W2.heap.size := by omega
    have zl : w.heap.size < W2.heap.size := by omega
    have HBW2 : Hid (Below W2.heap.size W2 W2) := Below.refl _ _
    clear mx ox k0 k1 k2 sz2 h1 h2 hbx M1 BL1 hz2 hlt
    go_wp2_with fail
    rw [← hW2]
    clear hW2
    refine (New_S n _).mono ?_
    unfold LPost
    rw [HNew.out]
    rintro e w3 ⟨A1, a1, A2, a2, A3, a3, rfl, m3, t3, h3⟩
    dsimp only at m3 ⊢
    have HBw3 := Lib.hid h3
    have Zw3 : W2.heap.size ≤ w3.heap.size := h3.size
    obtain ⟨V3, hV3⟩ : ∃ V3, V3 = w3.alloc (.cells #[.slice A1 na.length a1, .slice A2 nb.length a2, .slice A3 nr.length a3] 25) := ⟨_, rfl⟩
    have bV3 : Below w3.heap.size w3 V3 := by rw [hV3]; exact (by repeat' (first | with_reducible exact Below.refl _ _ | with_reducible assumption | with_reducible apply Below.drew | with_reducible apply below_drewN | with_reducible apply Below.alloc | with_reducible apply Below.setCell | (with_reducible refine Below.trans ?_ (Below.mono (by assumption) ?_)) | (simp; done) | (simp; omega) | omega | with_reducible apply le_size_alloc | with_reducible apply le_size_drewN | with_reducible apply le_size_drew | with_reducible apply le_size_setCell | refine Nat.le_trans ?_ (Below.size (by assumption))))
    have HBV3 : Hid (Below W2.heap.size W2 V3) := HBw3.out.trans (bV3.mono Zw3)
    have ZV3 : W2.heap.size ≤ V3.heap.size := HBV3.out.size
    have zV3 : w3.heap.size ≤ V3.heap.size := bV3.size
    have BA : Hid (Blk V3 w3.heap.size 25 #[.slice A1 na.length a1, .slice A2 nb.length a2, .slice A3 nr.length a3]) := by rw [hV3]; exact Blk.new_ rfl rfl
    have MA := Lib.hid (m3.ext bV3)
    have ltA : w3.heap.size < V3.heap.size := BA.out.lt
    clear m3 t3 h3 bV3
    go_wp2_with fail
    rw [← hV3]
    clear hV3
    refine (RNew_S n _).mono ?_
    unfold LPost
    rw [HNew.out]
    rintro e w4 ⟨B1, b1, B2, b2, B3, b3, rfl, m4, t4, h4⟩
    dsimp only at m4 ⊢
    have HBw4 : Hid (Below W2.heap.size W2 w4) := HBV3.out.trans (h4.mono ZV3)
    have Zw4 : W2.heap.size ≤ w4.heap.size := HBw4.out.size
    have zw4 : V3.heap.size ≤ w4.heap.size := h4.size
    obtain ⟨V4, hV4⟩ : ∃ V4, V4 = w4.alloc (.cells #[.slice B1 na.length b1, .slice B2 nb.length b2, .slice B3 nr.length b3] 25) := ⟨_, rfl⟩
    have bV4 : Below w4.heap.size w4 V4 := by rw [hV4]; exact (by repeat' (first | with_reducible exact Below.refl _ _ | with_reducible assumption | with_reducible apply Below.drew | with_reducible apply below_drewN | with_reducible apply Below.alloc | with_reducible apply Below.setCell | (with_reducible refine Below.trans ?_ (Below.mono (by assumption) ?_)) | (simp; done) | (simp; omega) | omega | with_reducible apply le_size_alloc | with_reducible apply le_size_drewN | with_reducible apply le_size_drew | with_reducible apply le_size_setCell | refine Nat.le_trans ?_ (Below.size (by assumption))))
    have HBV4 : Hid (Below W2.heap.size W2 V4) := HBw4.out.trans (bV4.mono Zw4)
    have ZV4 : W2.heap.size ≤ V4.heap.size := HBV4.out.size
    have zV4 : w4.heap.size ≤ V4.heap.size := bV4.size
    have BB : Hid (Blk V4 w4.heap.size 25 #[.slice B1 na.length b1, .slice B2 nb.length b2, .slice B3 nr.length b3]) := by rw [hV4]; exact Blk.new_ rfl rfl
    have MB := Lib.hid (m4.ext bV4)
    have ltB : w4.heap.size < V4.heap.size := BB.out.lt
    have bA4 := BA.out.below_ h4 ltA
    have y4 : w3.heap.size < w4.heap.size := by omega
    have BA4 := Lib.hid (bA4.below_ bV4 y4); have MA4 := Lib.hid ((MA.out.ext h4).ext bV4)
    have zA4 := BA4.out.lt
    clear m4 t4 h4 bV4 bA4
    go_wp2_with fail
    rw [← hV4]
    clear hV4
    have ka0 := ((BA4.out).cell_ 0).trans (by simp : _ = some (.slice A1 na.length a1))
    have ka1 := ((BA4.out).cell_ 1).trans (by simp : _ = some (.slice A2 nb.length a2))
    have ka2 := ((BA4.out).cell_ 2).trans (by simp : _ = some (.slice A3 nr.length a3))
    have kb0 := ((BB.out).cell_ 0).trans (by simp : _ = some (.slice B1 na.length b1))
    have kb1 := ((BB.out).cell_ 1).trans (by simp : _ = some (.slice B2 nb.length b2))
    have kb2 := ((BB.out).cell_ 2).trans (by simp : _ = some (.slice B3 nr.length b3))
    have kl0 := ((BL.out.below_ HBV4.out zl).cell_ 0).trans (by simp : _ = some (.slice Aa xs.length ca))
    have kl1 := ((BL.out.below_ HBV4.out zl).cell_ 1).trans (by simp : _ = some (.slice Ai ys.length ci))
    have kl2 := ((BL.out.below_ HBV4.out zl).cell_ 2).trans (by simp : _ = some (.slice Ar rs.length cr))
    have kx0 := ((BX.out.below_ HBV4.out zx).cell_ 0).trans (by simp : _ = some (.slice X1 xs.length x1))
    have kx1 := ((BX.out.below_ HBV4.out zx).cell_ 1).trans (by simp : _ = some (.slice X2 ys.length x2))
    have kx2 := ((BX.out.below_ HBV4.out zx).cell_ 2).trans (by simp : _ = some (.slice X3 rs.length x3))
    go_region_held3 (fun W => W.cell? ⟨w3.heap.size, 0, none⟩ = some (.slice A1 na.length a1) ∧ W.cell? ⟨w3.heap.size, 1, none⟩ = some (.slice A2 nb.length a2) ∧ W.cell? ⟨w3.heap.size, 2, none⟩ = some (.slice A3 nr.length a3) ∧ W.cell? ⟨w4.heap.size, 0, none⟩ = some (.slice B1 na.length b1) ∧ W.cell? ⟨w4.heap.size, 1, none⟩ = some (.slice B2 nb.length b2) ∧ W.cell? ⟨w4.heap.size, 2, none⟩ = some (.slice B3 nr.length b3) ∧ W.cell? ⟨w2.heap.size, 0, none⟩ = some (.slice X1 xs.length x1) ∧ W.cell? ⟨w2.heap.size, 1, none⟩ = some (.slice X2 ys.length x2) ∧ W.cell? ⟨w2.heap.size, 2, none⟩ = some (.slice X3 rs.length x3) ∧ W.cell? ⟨w.heap.size, 0, none⟩ = some (.slice Aa xs.length ca) ∧ W.cell? ⟨w.heap.size, 1, none⟩ = some (.slice Ai ys.length ci) ∧ W.cell? ⟨w.heap.size, 2, none⟩ = some (.slice Ar rs.length cr))
      (refine ⟨?_, ?_, ?_, ?_, ?_, ?_, ?_, ?_, ?_, ?_, ?_, ?_⟩ <;> (refine cell_keep (B := V4.heap.size) (a := V4) (by repeat' (first | with_reducible exact Below.refl _ _ | with_reducible assumption | with_reducible apply Below.drew | with_reducible apply below_drewN | with_reducible apply Below.alloc | with_reducible apply Below.setCell | (with_reducible refine Below.trans ?_ (Below.mono (by assumption) ?_)) | (simp; done) | (simp; omega) | omega | with_reducible apply le_size_alloc | with_reducible apply le_size_drewN | with_reducible apply le_size_drew | with_reducible apply le_size_setCell | refine Nat.le_trans ?_ (Below.size (by assumption)))) (by assumption) (by simp; omega)))
      (first
        | (go_at_call 15; (with_reducible refine (SameLists_any A1 A2 A3 B1 B2 B3 a1 a2 a3 b1 b2 b3 na nb na nb nr nr _ ?_ ?_ ?_ ?_ ?_ ?_ (by omega) (by omega) (by omega) (by omega) (by omega) (by omega)).mono ?_); (exact MA4.out.a.ext (by repeat' (first | with_reducible exact Below.refl _ _ | with_reducible assumption | with_reducible apply Below.drew | with_reducible apply below_drewN | with_reducible apply Below.alloc | with_reducible apply Below.setCell | (with_reducible refine Below.trans ?_ (Below.mono (by assumption) ?_)) | (simp; done) | (simp; omega) | omega | with_reducible apply le_size_alloc | with_reducible apply le_size_drewN | with_reducible apply le_size_drew | with_reducible apply le_size_setCell | refine Nat.le_trans ?_ (Below.size (by assumption))))); (exact MA4.out.i.ext (by repeat' (first | with_reducible exact Below.refl _ _ | with_reducible assumption | with_reducible apply Below.drew | with_reducible apply below_drewN | with_reducible apply Below.alloc | with_reducible apply Below.setCell | (with_reducible refine Below.trans ?_ (Below.mono (by assumption) ?_)) | (simp; done) | (simp; omega) | omega | with_reducible apply le_size_alloc | with_reducible apply le_size_drewN | with_reducible apply le_size_drew | with_reducible apply le_size_setCell | refine Nat.le_trans ?_ (Below.size (by assumption))))); (exact MA4.out.r.ext (by repeat' (first | with_reducible exact Below.refl _ _ | with_reducible assumption | with_reducible apply Below.drew | with_reducible apply below_drewN | with_reducible apply Below.alloc | with_reducible apply Below.setCell | (with_reducible refine Below.trans ?_ (Below.mono (by assumption) ?_)) | (simp; done) | (simp; omega) | omega | with_reducible apply le_size_alloc | with_reducible apply le_size_drewN | with_reducible apply le_size_drew | with_reducible apply le_size_setCell | refine Nat.le_trans ?_ (Below.size (by assumption))))); (exact MB.out.a.ext (by repeat' (first | with_reducible exact Below.refl _ _ | with_reducible assumption | with_reducible apply Below.drew | with_reducible apply below_drewN | with_reducible apply Below.alloc | with_reducible apply Below.setCell | (with_reducible refine Below.trans ?_ (Below.mono (by assumption) ?_)) | (simp; done) | (simp; omega) | omega | with_reducible apply le_size_alloc | with_reducible apply le_size_drewN | with_reducible apply le_size_drew | with_reducible apply le_size_setCell | refine Nat.le_trans ?_ (Below.size (by assumption))))); (exact MB.out.i.ext (by repeat' (first | with_reducible exact Below.refl _ _ | with_reducible assumption | with_reducible apply Below.drew | with_reducible apply below_drewN | with_reducible apply Below.alloc | with_reducible apply Below.setCell | (with_reducible refine Below.trans ?_ (Below.mono (by assumption) ?_)) | (simp; done) | (simp; omega) | omega | with_reducible apply le_size_alloc | with_reducible apply le_size_drewN | with_reducible apply le_size_drew | with_reducible apply le_size_setCell | refine Nat.le_trans ?_ (Below.size (by assumption))))); (exact MB.out.r.ext (by repeat' (first | with_reducible exact Below.refl _ _ | with_reducible assumption | with_reducible apply Below.drew | with_reducible apply below_drewN | with_reducible apply Below.alloc | with_reducible apply Below.setCell | (with_reducible refine Below.trans ?_ (Below.mono (by assumption) ?_)) | (simp; done) | (simp; omega) | omega | with_reducible apply le_size_alloc | with_reducible apply le_size_drewN | with_reducible apply le_size_drew | with_reducible apply le_size_setCell | refine Nat.le_trans ?_ (Below.size (by assumption))))); rw [decide_eq_true (show na = na ∧ nb = nb ∧ nr = nr from ⟨rfl, rfl, rfl⟩)]; rintro e w5 ⟨rfl, h5⟩)
        | (go_at_call 16; (with_reducible refine ((MX.out.ext ?_).check _ _ _).mono ?_); (exact HBV4.out.trans (Below.mono (B := V4.heap.size) (by repeat' (first | with_reducible exact Below.refl _ _ | with_reducible assumption | with_reducible apply Below.drew | with_reducible apply below_drewN | with_reducible apply Below.alloc | with_reducible apply Below.setCell | (with_reducible refine Below.trans ?_ (Below.mono (by assumption) ?_)) | (simp; done) | (simp; omega) | omega | with_reducible apply le_size_alloc | with_reducible apply le_size_drewN | with_reducible apply le_size_drew | with_reducible apply le_size_setCell | refine Nat.le_trans ?_ (Below.size (by assumption)))) ZV4)); rw [HCK.out]; rintro e w6 ⟨rfl, h6⟩)
        | (go_at_call 17; (with_reducible refine (RCheck_any _ _ _ _ _ _ _ _ _ _ (ML.out.ext ?_)).mono ?_); (exact HBV4.out.trans (Below.mono (B := V4.heap.size) (by repeat' (first | with_reducible exact Below.refl _ _ | with_reducible assumption | with_reducible apply Below.drew | with_reducible apply below_drewN | with_reducible apply Below.alloc | with_reducible apply Below.setCell | (with_reducible refine Below.trans ?_ (Below.mono (by assumption) ?_)) | (simp; done) | (simp; omega) | omega | with_reducible apply le_size_alloc | with_reducible apply le_size_drewN | with_reducible apply le_size_drew | with_reducible apply le_size_setCell | refine Nat.le_trans ?_ (Below.size (by assumption)))) ZV4)); rw [HCK.out]; rintro e w7 ⟨rfl, h7⟩))
    have h57 : Below V4.heap.size V4 w7 := (by repeat' (first | with_reducible exact Below.refl _ _ | with_reducible assumption | with_reducible apply Below.drew | with_reducible apply below_drewN | with_reducible apply Below.alloc | with_reducible apply Below.setCell | (with_reducible refine Below.trans ?_ (Below.mono (by assumption) ?_)) | (simp; done) | (simp; omega) | omega | with_reducible apply le_size_alloc | with_reducible apply le_size_drewN | with_reducible apply le_size_drew | with_reducible apply le_size_setCell | refine Nat.le_trans ?_ (Below.size (by assumption))))
    have HBw7 : Hid (Below W2.heap.size W2 w7) := HBV4.out.trans (h57.mono ZV4)
    have Zw7 : W2.heap.size ≤ w7.heap.size := HBw7.out.size
    have zw7 : V4.heap.size ≤ w7.heap.size := h57.size
    have BA7 := Lib.hid (BA4.out.below_ h57 zA4); have BB7 := Lib.hid (BB.out.below_ h57 ltB)
    clear ka0 ka1 ka2 kb0 kb1 kb2 kl0 kl1 kl2 kx0 kx1 kx2 MA MA4 MB h57
    have kx0 := ((BX.out.below_ HBw7.out zx).cell_ 0).trans (by simp : _ = some (.slice X1 xs.length x1))
    have kx1 := ((BX.out.below_ HBw7.out zx).cell_ 1).trans (by simp : _ = some (.slice X2 ys.length x2))
    have kx2 := ((BX.out.below_ HBw7.out zx).cell_ 2).trans (by simp : _ = some (.slice X3 rs.length x3))
    go_wp2_with fail
    refine (Add_S _ _ _ _ _ _ _ _ _ _ (MX.out.ext HBw7.out) f).mono ?_
    unfold LPost
    rw [HAdd.out]
    rintro e w8 ⟨P8, p8, Q8, q8, R8, r8, rfl, m8, t8, h8⟩
    dsimp only at m8 ⊢
    have HBw8 : Hid (Below W2.heap.size W2 w8) := HBw7.out.trans (h8.mono Zw7)
    have Zw8 : W2.heap.size ≤ w8.heap.size := HBw8.out.size
    have zw8 : w7.heap.size ≤ w8.heap.size := h8.size
    have bA8 := BA7.out.below_ h8 BA7.out.lt
    have bB8 := BB7.out.below_ h8 BB7.out.lt
    obtain ⟨V8, hV8⟩ : ∃ V8, V8 = ((w8.setCell ⟨w3.heap.size, 0, none⟩ (.slice P8 aa.length p8)).setCell ⟨w3.heap.size, 1, none⟩ (.slice Q8 ab.length q8)).setCell ⟨w3.heap.size, 2, none⟩ (.slice R8 ar.length r8) := ⟨_, rfl⟩
    have HBV8 : Hid (Below W2.heap.size W2 V8) := by
      show Below _ _ _
      rw [hV8]
      exact ((HBw8.out.setCell (by show _ ≤ w3.heap.size; omega) _).setCell (by show _ ≤ w3.heap.size; omega) _).setCell (by show _ ≤ w3.heap.size; omega) _
    have ZV8 : W2.heap.size ≤ V8.heap.size := HBV8.out.size
    have MA8 : Hid (InMem V8 P8 Q8 R8 aa ab ar) := by rw [hV8]; exact ((m8.far_ t8 (by omega) _ _).far_ t8 (by omega) _ _).far_ t8 (by omega) _ _
    have BA8 : Hid (Blk V8 w3.heap.size 25 #[.slice P8 aa.length p8, .slice Q8 ab.length q8, .slice R8 ar.length r8]) := by
      rw [hV8]
      have := ((bA8.set_ 0 (.slice P8 aa.length p8)).set_ 1 (.slice Q8 ab.length q8)).set_ 2 (.slice R8 ar.length r8)
      show Blk _ _ _ _
      simpa using this
    have BB8 : Hid (Blk V8 w4.heap.size 25 #[.slice B1 na.length b1, .slice B2 nb.length b2, .slice B3 nr.length b3]) := by
      rw [hV8]
      exact ((bB8.far_ (by simp; omega) _).far_ (by simp; omega) _).far_ (by simp; omega) _
    have HSZ8 : Hid (V8.heap.size = w8.heap.size) := by show _ = _; rw [hV8]; simp [World.setCell]
    have T8 := Lib.hid t8
    have ka0 := ((bA8).cell_ 0).trans (by simp : _ = some (.slice A1 na.length a1))
    have ka1 := ((bA8).cell_ 1).trans (by simp : _ = some (.slice A2 nb.length a2))
    have ka2 := ((bA8).cell_ 2).trans (by simp : _ = some (.slice A3 nr.length a3))
    have ka3 := bA8.frozen_ 0; have ka4 := bA8.frozen_ 1; have ka5 := bA8.frozen_ 2
    have kl0 := ((BL.out.below_ HBw8.out zl).cell_ 0).trans (by simp : _ = some (.slice Aa xs.length ca))
    have kl1 := ((BL.out.below_ HBw8.out zl).cell_ 1).trans (by simp : _ = some (.slice Ai ys.length ci))
    have kl2 := ((BL.out.below_ HBw8.out zl).cell_ 2).trans (by simp : _ = some (.slice Ar rs.length cr))
    have y8 : ¬ w.heap.size = w3.heap.size := by omega
    have y8' : ¬ w3.heap.size = w.heap.size := by omega
    clear kx0 kx1 kx2 m8 t8 h8 bA8 bB8
    go_wp2_with fail
    rw [← hV8]
    clear hV8 kl0 kl1 kl2 ka0 ka1 ka2 ka3 ka4 ka5
    refine (RAdd_S _ _ _ _ _ _ _ _ _ _ (ML.out.ext HBV8.out) f).mono ?_
    unfold LPost
    rw [HAdd.out]
    rintro e w9 ⟨P9, p9, Q9, q9, R9, r9, rfl, m9, t9, h9⟩
    dsimp only at m9 ⊢
    have HBw9 : Hid (Below W2.heap.size W2 w9) := HBV8.out.trans (h9.mono ZV8)
    have Zw9 : W2.heap.size ≤ w9.heap.size := HBw9.out.size
    have zw9 : V8.heap.size ≤ w9.heap.size := h9.size
    have e8 := HSZ8.out
    have bB9 := BB8.out.below_ h9 BB8.out.lt
    have bA9 := BA8.out.below_ h9 BA8.out.lt
    obtain ⟨V9, hV9⟩ : ∃ V9, V9 = ((w9.setCell ⟨w4.heap.size, 0, none⟩ (.slice P9 aa.length p9)).setCell ⟨w4.heap.size, 1, none⟩ (.slice Q9 ab.length q9)).setCell ⟨w4.heap.size, 2, none⟩ (.slice R9 ar.length r9) := ⟨_, rfl⟩
    have HBV9 : Hid (Below W2.heap.size W2 V9) := by
      show Below _ _ _
      rw [hV9]
      exact ((HBw9.out.setCell (by show _ ≤ w4.heap.size; omega) _).setCell (by show _ ≤ w4.heap.size; omega) _).setCell (by show _ ≤ w4.heap.size; omega) _
    have ZV9 : W2.heap.size ≤ V9.heap.size := HBV9.out.size
    have MB9 : Hid (InMem V9 P9 Q9 R9 aa ab ar) := by rw [hV9]; exact ((m9.far_ t9 (by omega) _ _).far_ t9 (by omega) _ _).far_ t9 (by omega) _ _
    have MA9 : Hid (InMem V9 P8 Q8 R8 aa ab ar) := by rw [hV9]; exact (((MA8.out.ext h9).far_ T8.out (by omega) _ _).far_ T8.out (by omega) _ _).far_ T8.out (by omega) _ _
    have BB9 : Hid (Blk V9 w4.heap.size 25 #[.slice P9 aa.length p9, .slice Q9 ab.length q9, .slice R9 ar.length r9]) := by
      rw [hV9]
      have := ((bB9.set_ 0 (.slice P9 aa.length p9)).set_ 1 (.slice Q9 ab.length q9)).set_ 2 (.slice R9 ar.length r9)
      show Blk _ _ _ _
      simpa using this
    have BA9 : Hid (Blk V9 w3.heap.size 25 #[.slice P8 aa.length p8, .slice Q8 ab.length q8, .slice R8 ar.length r8]) := by
      rw [hV9]
      exact ((bA9.far_ (by simp; omega) _).far_ (by simp; omega) _).far_ (by simp; omega) _
    have HSZ9 : Hid (V9.heap.size = w9.heap.size) := by show _ = _; rw [hV9]; simp [World.setCell]
    have kb0 := ((bB9).cell_ 0).trans (by simp : _ = some (.slice B1 na.length b1))
    have kb1 := ((bB9).cell_ 1).trans (by simp : _ = some (.slice B2 nb.length b2))
    have kb2 := ((bB9).cell_ 2).trans (by simp : _ = some (.slice B3 nr.length b3))
    have kb3 := bB9.frozen_ 0; have kb4 := bB9.frozen_ 1; have kb5 := bB9.frozen_ 2
    have ka0 := ((bA9).cell_ 0).trans (by simp : _ = some (.slice P8 aa.length p8))
    have ka1 := ((bA9).cell_ 1).trans (by simp : _ = some (.slice Q8 ab.length q8))
    have ka2 := ((bA9).cell_ 2).trans (by simp : _ = some (.slice R8 ar.length r8))
    have y9 : ¬ w3.heap.size = w4.heap.size := by omega
    have y9' : ¬ w4.heap.size = w3.heap.size := by omega
    clear e8 m9 t9 h9 bB9 bA9 MA8 BA8 BB8
    go_wp2_with fail
    rw [← hV9]
    clear hV9 kb0 kb1 kb2 kb3 kb4 kb5 ka0 ka1 ka2
    refine (SameLists_any _ _ _ _ _ _ _ _ _ _ _ _ _ _ _ _ _ _ _ MA9.out.a MA9.out.i MA9.out.r MB9.out.a MB9.out.i MB9.out.r (by omega) (by omega) (by omega) (by omega) (by omega) (by omega)).mono ?_
    rw [decide_eq_true (show aa = aa ∧ ab = ab ∧ ar = ar from ⟨rfl, rfl, rfl⟩)]
    rintro e u9 ⟨rfl, g9⟩
    have HBu9 : Hid (Below W2.heap.size W2 u9) := HBV9.out.trans (g9.mono ZV9)
    have Zu9 : W2.heap.size ≤ u9.heap.size := HBu9.out.size
    have zu9 : V9.heap.size ≤ u9.heap.size := g9.size
    have e9 := HSZ9.out
    have C9 := Lib.hid (BA9.out.below_ g9 BA9.out.lt); have D9 := Lib.hid (BB9.out.below_ g9 BB9.out.lt)
    have v9 : w4.heap.size < u9.heap.size := D9.out.lt
    clear g9 e9 MA9 MB9 BA9 BB9
    have kx0 := ((BX.out.below_ HBu9.out zx).cell_ 0).trans (by simp : _ = some (.slice X1 xs.length x1))
    have kx1 := ((BX.out.below_ HBu9.out zx).cell_ 1).trans (by simp : _ = some (.slice X2 ys.length x2))
    have kx2 := ((BX.out.below_ HBu9.out zx).cell_ 2).trans (by simp : _ = some (.slice X3 rs.length x3))
    go_wp2_with fail
    refine (Remove_S _ _ _ _ _ _ _ _ _ _ (MX.out.ext HBu9.out) f).mono ?_
    unfold LPost
    rw [HRem.out]
    rintro e w10 ⟨P10, p10, Q10, q10, R10, r10, rfl, m10, t10, h10⟩
    dsimp only at m10 ⊢
    have HBw10 : Hid (Below W2.heap.size W2 w10) := HBu9.out.trans (h10.mono Zu9)
    have Zw10 : W2.heap.size ≤ w10.heap.size := HBw10.out.size
    have zw10 : u9.heap.size ≤ w10.heap.size := h10.size
    have bA10 := C9.out.below_ h10 C9.out.lt
    have bB10 := D9.out.below_ h10 D9.out.lt
    obtain ⟨V10, hV10⟩ : ∃ V10, V10 = ((w10.setCell ⟨w3.heap.size, 0, none⟩ (.slice P10 ra.length p10)).setCell ⟨w3.heap.size, 1, none⟩ (.slice Q10 rb.length q10)).setCell ⟨w3.heap.size, 2, none⟩ (.slice R10 rr.length r10) := ⟨_, rfl⟩
    have HBV10 : Hid (Below W2.heap.size W2 V10) := by
      show Below _ _ _
      rw [hV10]
      exact ((HBw10.out.setCell (by show _ ≤ w3.heap.size; omega) _).setCell (by show _ ≤ w3.heap.size; omega) _).setCell (by show _ ≤ w3.heap.size; omega) _
    have ZV10 : W2.heap.size ≤ V10.heap.size := HBV10.out.size
    have MA10 : Hid (InMem V10 P10 Q10 R10 ra rb rr) := by rw [hV10]; exact ((m10.far_ t10 (by omega) _ _).far_ t10 (by omega) _ _).far_ t10 (by omega) _ _
    have BA10 : Hid (Blk V10 w3.heap.size 25 #[.slice P10 ra.length p10, .slice Q10 rb.length q10, .slice R10 rr.length r10]) := by
      rw [hV10]
      have := ((bA10.set_ 0 (.slice P10 ra.length p10)).set_ 1 (.slice Q10 rb.length q10)).set_ 2 (.slice R10 rr.length r10)
      show Blk _ _ _ _
      simpa using this
    have BB10 : Hid (Blk V10 w4.heap.size 25 #[.slice P9 aa.length p9, .slice Q9 ab.length q9, .slice R9 ar.length r9]) := by
      rw [hV10]
      exact ((bB10.far_ (by simp; omega) _).far_ (by simp; omega) _).far_ (by simp; omega) _
    have HSZ10 : Hid (V10.heap.size = w10.heap.size) := by show _ = _; rw [hV10]; simp [World.setCell]
    have T10 := Lib.hid t10
    have ka0 := ((bA10).cell_ 0).trans (by simp : _ = some (.slice P8 aa.length p8))
    have ka1 := ((bA10).cell_ 1).trans (by simp : _ = some (.slice Q8 ab.length q8))
    have ka2 := ((bA10).cell_ 2).trans (by simp : _ = some (.slice R8 ar.length r8))
    have ka3 := bA10.frozen_ 0; have ka4 := bA10.frozen_ 1; have ka5 := bA10.frozen_ 2
    have kl0 := ((BL.out.below_ HBw10.out zl).cell_ 0).trans (by simp : _ = some (.slice Aa xs.length ca))
    have kl1 := ((BL.out.below_ HBw10.out zl).cell_ 1).trans (by simp : _ = some (.slice Ai ys.length ci))
    have kl2 := ((BL.out.below_ HBw10.out zl).cell_ 2).trans (by simp : _ = some (.slice Ar rs.length cr))
    have y10 : ¬ w.heap.size = w3.heap.size := by omega
    have y10' : ¬ w3.heap.size = w.heap.size := by omega
    clear kx0 kx1 kx2 m10 t10 h10 bA10 bB10
    go_wp2_with fail
    rw [← hV10]
    clear hV10 kl0 kl1 kl2 ka0 ka1 ka2 ka3 ka4 ka5
    refine (RRemove_S _ _ _ _ _ _ _ _ _ _ (ML.out.ext HBV10.out) f).mono ?_
    unfold LPost
    rw [HRem.out]
    rintro e w11 ⟨P11, p11, Q11, q11, R11, r11, rfl, m11, t11, h11⟩
    dsimp only at m11 ⊢
    have HBw11 : Hid (Below W2.heap.size W2 w11) := HBV10.out.trans (h11.mono ZV10)
    have Zw11 : W2.heap.size ≤ w11.heap.size := HBw11.out.size
    have zw11 : V10.heap.size ≤ w11.heap.size := h11.size
    have e10 := HSZ10.out
    have bB11 := BB10.out.below_ h11 BB10.out.lt
    have bA11 := BA10.out.below_ h11 BA10.out.lt
    obtain ⟨V11, hV11⟩ : ∃ V11, V11 = ((w11.setCell ⟨w4.heap.size, 0, none⟩ (.slice P11 ra.length p11)).setCell ⟨w4.heap.size, 1, none⟩ (.slice Q11 rb.length q11)).setCell ⟨w4.heap.size, 2, none⟩ (.slice R11 rr.length r11) := ⟨_, rfl⟩
    have HBV11 : Hid (Below W2.heap.size W2 V11) := by
      show Below _ _ _
      rw [hV11]
      exact ((HBw11.out.setCell (by show _ ≤ w4.heap.size; omega) _).setCell (by show _ ≤ w4.heap.size; omega) _).setCell (by show _ ≤ w4.heap.size; omega) _
    have ZV11 : W2.heap.size ≤ V11.heap.size := HBV11.out.size
    have MB11 : Hid (InMem V11 P11 Q11 R11 ra rb rr) := by rw [hV11]; exact ((m11.far_ t11 (by omega) _ _).far_ t11 (by omega) _ _).far_ t11 (by omega) _ _
    have MA11 : Hid (InMem V11 P10 Q10 R10 ra rb rr) := by rw [hV11]; exact (((MA10.out.ext h11).far_ T10.out (by omega) _ _).far_ T10.out (by omega) _ _).far_ T10.out (by omega) _ _
    have BB11 : Hid (Blk V11 w4.heap.size 25 #[.slice P11 ra.length p11, .slice Q11 rb.length q11, .slice R11 rr.length r11]) := by
      rw [hV11]
      have := ((bB11.set_ 0 (.slice P11 ra.length p11)).set_ 1 (.slice Q11 rb.length q11)).set_ 2 (.slice R11 rr.length r11)
      show Blk _ _ _ _
      simpa using this
    have BA11 : Hid (Blk V11 w3.heap.size 25 #[.slice P10 ra.length p10, .slice Q10 rb.length q10, .slice R10 rr.length r10]) := by
      rw [hV11]
      exact ((bA11.far_ (by simp; omega) _).far_ (by simp; omega) _).far_ (by simp; omega) _
    have HSZ11 : Hid (V11.heap.size = w11.heap.size) := by show _ = _; rw [hV11]; simp [World.setCell]
    have kb0 := ((bB11).cell_ 0).trans (by simp : _ = some (.slice P9 aa.length p9))
    have kb1 := ((bB11).cell_ 1).trans (by simp : _ = some (.slice Q9 ab.length q9))
    have kb2 := ((bB11).cell_ 2).trans (by simp : _ = some (.slice R9 ar.length r9))
    have kb3 := bB11.frozen_ 0; have kb4 := bB11.frozen_ 1; have kb5 := bB11.frozen_ 2
    have ka0 := ((bA11).cell_ 0).trans (by simp : _ = some (.slice P10 ra.length p10))
    have ka1 := ((bA11).cell_ 1).trans (by simp : _ = some (.slice Q10 rb.length q10))
    have ka2 := ((bA11).cell_ 2).trans (by simp : _ = some (.slice R10 rr.length r10))
    have y11 : ¬ w3.heap.size = w4.heap.size := by omega
    have y11' : ¬ w4.heap.size = w3.heap.size := by omega
    clear e10 m11 t11 h11 bB11 bA11 MA10 BA10 BB10
    go_wp2_with fail
    rw [← hV11]
    clear hV11 kb0 kb1 kb2 kb3 kb4 kb5 ka0 ka1 ka2
    refine (SameLists_any _ _ _ _ _ _ _ _ _ _ _ _ _ _ _ _ _ _ _ MA11.out.a MA11.out.i MA11.out.r MB11.out.a MB11.out.i MB11.out.r (by omega) (by omega) (by omega) (by omega) (by omega) (by omega)).mono ?_
    rw [decide_eq_true (show ra = ra ∧ rb = rb ∧ rr = rr from ⟨rfl, rfl, rfl⟩)]
    rintro e u11 ⟨rfl, g11⟩
    have HBu11 : Hid (Below W2.heap.size W2 u11) := HBV11.out.trans (g11.mono ZV11)
    have Zu11 : W2.heap.size ≤ u11.heap.size := HBu11.out.size
    have zu11 : V11.heap.size ≤ u11.heap.size := g11.size
    have e11 := HSZ11.out
    have C11 := Lib.hid (BA11.out.below_ g11 BA11.out.lt); have D11 := Lib.hid (BB11.out.below_ g11 BB11.out.lt)
    have v11 : w4.heap.size < u11.heap.size := D11.out.lt
    clear g11 e11 MA11 MB11 BA11 BB11
    have kx0 := ((BX.out.below_ HBu11.out zx).cell_ 0).trans (by simp : _ = some (.slice X1 xs.length x1))
    have kx1 := ((BX.out.below_ HBu11.out zx).cell_ 1).trans (by simp : _ = some (.slice X2 ys.length x2))
    have kx2 := ((BX.out.below_ HBu11.out zx).cell_ 2).trans (by simp : _ = some (.slice X3 rs.length x3))
    go_wp2_with fail
    refine (Touch_S _ _ _ _ _ _ _ _ _ _ (MX.out.ext HBu11.out) f).mono ?_
    unfold LPost
    rw [HTou.out]
    rintro e w12 ⟨P12, p12, Q12, q12, R12, r12, rfl, m12, t12, h12⟩
    dsimp only at m12 ⊢
    have HBw12 : Hid (Below W2.heap.size W2 w12) := HBu11.out.trans (h12.mono Zu11)
    have Zw12 : W2.heap.size ≤ w12.heap.size := HBw12.out.size
    have zw12 : u11.heap.size ≤ w12.heap.size := h12.size
    have bA12 := C11.out.below_ h12 C11.out.lt
    have bB12 := D11.out.below_ h12 D11.out.lt
    obtain ⟨V12, hV12⟩ : ∃ V12, V12 = ((w12.setCell ⟨w3.heap.size, 0, none⟩ (.slice P12 ta.length p12)).setCell ⟨w3.heap.size, 1, none⟩ (.slice Q12 tb.length q12)).setCell ⟨w3.heap.size, 2, none⟩ (.slice R12 tr.length r12) := ⟨_, rfl⟩
    have HBV12 : Hid (Below W2.heap.size W2 V12) := by
      show Below _ _ _
      rw [hV12]
      exact ((HBw12.out.setCell (by show _ ≤ w3.heap.size; omega) _).setCell (by show _ ≤ w3.heap.size; omega) _).setCell (by show _ ≤ w3.heap.size; omega) _
    have ZV12 : W2.heap.size ≤ V12.heap.size := HBV12.out.size
    have MA12 : Hid (InMem V12 P12 Q12 R12 ta tb tr) := by rw [hV12]; exact ((m12.far_ t12 (by omega) _ _).far_ t12 (by omega) _ _).far_ t12 (by omega) _ _
    have BA12 : Hid (Blk V12 w3.heap.size 25 #[.slice P12 ta.length p12, .slice Q12 tb.length q12, .slice R12 tr.length r12]) := by
      rw [hV12]
      have := ((bA12.set_ 0 (.slice P12 ta.length p12)).set_ 1 (.slice Q12 tb.length q12)).set_ 2 (.slice R12 tr.length r12)
      show Blk _ _ _ _
      simpa using this
    have BB12 : Hid (Blk V12 w4.heap.size 25 #[.slice P11 ra.length p11, .slice Q11 rb.length q11, .slice R11 rr.length r11]) := by
      rw [hV12]
      exact ((bB12.far_ (by simp; omega) _).far_ (by simp; omega) _).far_ (by simp; omega) _
    have HSZ12 : Hid (V12.heap.size = w12.heap.size) := by show _ = _; rw [hV12]; simp [World.setCell]
    have T12 := Lib.hid t12
    have ka0 := ((bA12).cell_ 0).trans (by simp : _ = some (.slice P10 ra.length p10))
    have ka1 := ((bA12).cell_ 1).trans (by simp : _ = some (.slice Q10 rb.length q10))
    have ka2 := ((bA12).cell_ 2).trans (by simp : _ = some (.slice R10 rr.length r10))
    have ka3 := bA12.frozen_ 0; have ka4 := bA12.frozen_ 1; have ka5 := bA12.frozen_ 2
    have kl0 := ((BL.out.below_ HBw12.out zl).cell_ 0).trans (by simp : _ = some (.slice Aa xs.length ca))
    have kl1 := ((BL.out.below_ HBw12.out zl).cell_ 1).trans (by simp : _ = some (.slice Ai ys.length ci))
    have kl2 := ((BL.out.below_ HBw12.out zl).cell_ 2).trans (by simp : _ = some (.slice Ar rs.length cr))
    have y12 : ¬ w.heap.size = w3.heap.size := by omega
    have y12' : ¬ w3.heap.size = w.heap.size := by omega
    clear kx0 kx1 kx2 m12 t12 h12 bA12 bB12
    go_wp2_with fail
    rw [← hV12]
    clear hV12 kl0 kl1 kl2 ka0 ka1 ka2 ka3 ka4 ka5
    refine (RTouch_S _ _ _ _ _ _ _ _ _ _ (ML.out.ext HBV12.out) f).mono ?_
    unfold LPost
    rw [HTou.out]
    rintro e w13 ⟨P13, p13, Q13, q13, R13, r13, rfl, m13, t13, h13⟩
    dsimp only at m13 ⊢
    have HBw13 : Hid (Below W2.heap.size W2 w13) := HBV12.out.trans (h13.mono ZV12)
    have Zw13 : W2.heap.size ≤ w13.heap.size := HBw13.out.size
    have zw13 : V12.heap.size ≤ w13.heap.size := h13.size
    have e12 := HSZ12.out
    have bB13 := BB12.out.below_ h13 BB12.out.lt
    have bA13 := BA12.out.below_ h13 BA12.out.lt
    obtain ⟨V13, hV13⟩ : ∃ V13, V13 = ((w13.setCell ⟨w4.heap.size, 0, none⟩ (.slice P13 ta.length p13)).setCell ⟨w4.heap.size, 1, none⟩ (.slice Q13 tb.length q13)).setCell ⟨w4.heap.size, 2, none⟩ (.slice R13 tr.length r13) := ⟨_, rfl⟩
    have HBV13 : Hid (Below W2.heap.size W2 V13) := by
      show Below _ _ _
      rw [hV13]
      exact ((HBw13.out.setCell (by show _ ≤ w4.heap.size; omega) _).setCell (by show _ ≤ w4.heap.size; omega) _).setCell (by show _ ≤ w4.heap.size; omega) _
    have ZV13 : W2.heap.size ≤ V13.heap.size := HBV13.out.size
    have MB13 : Hid (InMem V13 P13 Q13 R13 ta tb tr) := by rw [hV13]; exact ((m13.far_ t13 (by omega) _ _).far_ t13 (by omega) _ _).far_ t13 (by omega) _ _
    have MA13 : Hid (InMem V13 P12 Q12 R12 ta tb tr) := by rw [hV13]; exact (((MA12.out.ext h13).far_ T12.out (by omega) _ _).far_ T12.out (by omega) _ _).far_ T12.out (by omega) _ _
    have BB13 : Hid (Blk V13 w4.heap.size 25 #[.slice P13 ta.length p13, .slice Q13 tb.length q13, .slice R13 tr.length r13]) := by
      rw [hV13]
      have := ((bB13.set_ 0 (.slice P13 ta.length p13)).set_ 1 (.slice Q13 tb.length q13)).set_ 2 (.slice R13 tr.length r13)
      show Blk _ _ _ _
      simpa using this
    have BA13 : Hid (Blk V13 w3.heap.size 25 #[.slice P12 ta.length p12, .slice Q12 tb.length q12, .slice R12 tr.length r12]) := by
      rw [hV13]
      exact ((bA13.far_ (by simp; omega) _).far_ (by simp; omega) _).far_ (by simp; omega) _
    have HSZ13 : Hid (V13.heap.size = w13.heap.size) := by show _ = _; rw [hV13]; simp [World.setCell]
    have kb0 := ((bB13).cell_ 0).trans (by simp : _ = some (.slice P11 ra.length p11))
    have kb1 := ((bB13).cell_ 1).trans (by simp : _ = some (.slice Q11 rb.length q11))
    have kb2 := ((bB13).cell_ 2).trans (by simp : _ = some (.slice R11 rr.length r11))
    have kb3 := bB13.frozen_ 0; have kb4 := bB13.frozen_ 1; have kb5 := bB13.frozen_ 2
    have ka0 := ((bA13).cell_ 0).trans (by simp : _ = some (.slice P12 ta.length p12))
    have ka1 := ((bA13).cell_ 1).trans (by simp : _ = some (.slice Q12 tb.length q12))
    have ka2 := ((bA13).cell_ 2).trans (by simp : _ = some (.slice R12 tr.length r12))
    have y13 : ¬ w3.heap.size = w4.heap.size := by omega
    have y13' : ¬ w4.heap.size = w3.heap.size := by omega
    have kx0 := ((BX.out.below_ HBw13.out zx).cell_ 0).trans (by simp : _ = some (.slice X1 xs.length x1))
    have kx1 := ((BX.out.below_ HBw13.out zx).cell_ 1).trans (by simp : _ = some (.slice X2 ys.length x2))
    have kx2 := ((BX.out.below_ HBw13.out zx).cell_ 2).trans (by simp : _ = some (.slice X3 rs.length x3))
    have yx : ¬ w2.heap.size = w4.heap.size := by omega
    have yx' : ¬ w4.heap.size = w2.heap.size := by omega
    clear e12 m13 t13 h13 bB13 bA13 MA12 BA12 BB12
    go_wp2_with fail
    rw [← hV13]
    clear hV13 kb0 kb1 kb2 kb3 kb4 kb5 ka0 ka1 ka2 kx0 kx1 kx2
    refine (Where_S _ _ _ _ _ _ _ _ _ _ (MX.out.ext HBV13.out) f).mono ?_
    rw [HCD.out, HWH.out]
    rintro e wa ⟨rfl, ha⟩
    have HBwa : Hid (Below W2.heap.size W2 wa) := HBV13.out.trans (ha.mono ZV13)
    have Zwa : W2.heap.size ≤ wa.heap.size := HBwa.out.size
    have zwa : V13.heap.size ≤ wa.heap.size := ha.size
    have kl0 := ((BL.out.below_ HBwa.out zl).cell_ 0).trans (by simp : _ = some (.slice Aa xs.length ca))
    have kl1 := ((BL.out.below_ HBwa.out zl).cell_ 1).trans (by simp : _ = some (.slice Ai ys.length ci))
    have kl2 := ((BL.out.below_ HBwa.out zl).cell_ 2).trans (by simp : _ = some (.slice Ar rs.length cr))
    go_wp2_with fail
    clear kl0 kl1 kl2
    refine (RWhere_S _ _ _ _ _ _ _ _ _ f _ (ML.out.ext HBwa.out)).mono ?_
    rw [HCD.out, HWH.out]
    rintro e wb ⟨rfl, hb⟩
    have HBwb : Hid (Below W2.heap.size W2 wb) := HBwa.out.trans (hb.mono Zwa)
    have Zwb : W2.heap.size ≤ wb.heap.size := HBwb.out.size
    have zwb : wa.heap.size ≤ wb.heap.size := hb.size
    have bAb := (BA13.out.below_ ha BA13.out.lt).below_ hb (by have := BA13.out.lt; omega)
    have bBb := (BB13.out.below_ ha BB13.out.lt).below_ hb (by have := BB13.out.lt; omega)
    have MAb := Lib.hid ((MA13.out.ext ha).ext hb); have MBb := Lib.hid ((MB13.out.ext ha).ext hb)
    have ka0 := ((bAb).cell_ 0).trans (by simp : _ = some (.slice P12 ta.length p12))
    have ka1 := ((bAb).cell_ 1).trans (by simp : _ = some (.slice Q12 tb.length q12))
    have ka2 := ((bAb).cell_ 2).trans (by simp : _ = some (.slice R12 tr.length r12))
    have kb0 := ((bBb).cell_ 0).trans (by simp : _ = some (.slice P13 ta.length p13))
    have kb1 := ((bBb).cell_ 1).trans (by simp : _ = some (.slice Q13 tb.length q13))
    have kb2 := ((bBb).cell_ 2).trans (by simp : _ = some (.slice R13 tr.length r13))
    clear bAb bBb ha hb
    go_wp2_with fail
    refine (SameLists_any _ _ _ _ _ _ _ _ _ _ _ _ _ _ _ _ _ _ _ MAb.out.a MAb.out.i MAb.out.r MBb.out.a MBb.out.i MBb.out.r (by omega) (by omega) (by omega) (by omega) (by omega) (by omega)).mono ?_
    rw [decide_eq_true (show ta = ta ∧ tb = tb ∧ tr = tr from ⟨rfl, rfl, rfl⟩)]
    rintro e wd ⟨rfl, hd⟩
    have HBwd : Hid (Below W2.heap.size W2 wd) := HBwb.out.trans (hd.mono Zwb)
    have Zwd : W2.heap.size ≤ wd.heap.size := HBwd.out.size
    have zwd : wb.heap.size ≤ wd.heap.size := hd.size
    clear ka0 ka1 ka2 kb0 kb1 kb2
    have kl0 := ((BL.out.below_ HBwd.out zl).cell_ 0).trans (by simp : _ = some (.slice Aa xs.length ca))
    have kl1 := ((BL.out.below_ HBwd.out zl).cell_ 1).trans (by simp : _ = some (.slice Ai ys.length ci))
    have kl2 := ((BL.out.below_ HBwd.out zl).cell_ 2).trans (by simp : _ = some (.slice Ar rs.length cr))
    have kx0 := ((BX.out.below_ HBwd.out zx).cell_ 0).trans (by simp : _ = some (.slice X1 xs.length x1))
    have kx1 := ((BX.out.below_ HBwd.out zx).cell_ 1).trans (by simp : _ = some (.slice X2 ys.length x2))
    have kx2 := ((BX.out.below_ HBwd.out zx).cell_ 2).trans (by simp : _ = some (.slice X3 rs.length x3))
    go_wp2_with fail
    refine (SameLists_any _ _ _ _ _ _ _ _ _ _ _ _ _ _ _ _ _ _ _ (MX.out.ext HBwd.out).a (MX.out.ext HBwd.out).i (MX.out.ext HBwd.out).r (ML.out.ext HBwd.out).a (ML.out.ext HBwd.out).i (ML.out.ext HBwd.out).r (by omega) (by omega) (by omega) (by omega) (by omega) (by omega)).mono ?_
    rw [decide_eq_true (show xs = xs ∧ ys = ys ∧ rs = rs from ⟨rfl, rfl, rfl⟩)]
    rintro e we ⟨rfl, he⟩
    have HBwe : Hid (Below W2.heap.size W2 we) := HBwd.out.trans (he.mono Zwd)
    have Zwe : W2.heap.size ≤ we.heap.size := HBwe.out.size
    have zwe : wd.heap.size ≤ we.heap.size := he.size
    clear kl0 kl1 kl2 kx0 kx1 kx2
    go_wp2_with fail
    refine (awake_any _).mono ?_
    rintro e wf ⟨rfl, hf⟩
    have HBwf : Hid (Below W2.heap.size W2 wf) := HBwe.out.trans (hf.mono Zwe)
    have Zwf : W2.heap.size ≤ wf.heap.size := HBwf.out.size
    have zwf : we.heap.size ≤ wf.heap.size := hf.size
    go_wp2
    go_ret
    exact ⟨by first | rfl | simp, HW.out.trans (HBwf.out.mono HW.out.size)⟩
  · have hdec := decide_eq_false hli
    clear sa si sr wa wi hli
    have HDEC := Lib.hid hdec
    clear hdec
    go_enter Try.func3, Try.ntmps3
    go_wp2_with fail
    refine (light_any _ _ _ _ _ _ _ _ _ _ la li lr).mono ?_
    rw [HDEC.out]
    rintro e w1 ⟨rfl, h1⟩
    go_wp2_with fail
    refine (awake_any _).mono ?_
    rintro e w2 ⟨rfl, h2⟩
    go_wp2
    go_ret
    exact ⟨rfl, (by repeat' (first | with_reducible exact Below.refl _ _ | with_reducible assumption | with_reducible apply Below.drew | with_reducible apply below_drewN | with_reducible apply Below.alloc | with_reducible apply Below.setCell | (with_reducible refine Below.trans ?_ (Below.mono (by assumption) ?_)) | (simp; done) | (simp; omega) | omega | with_reducible apply le_size_alloc | with_reducible apply le_size_drewN | with_reducible apply le_size_drew | with_reducible apply le_size_setCell | refine Nat.le_trans ?_ (Below.size (by assumption))))⟩

set_option maxRecDepth 100000 in
theorem lruChanges_lifted (os : Os) (started : os.Started) (H : Type) (enc : TypeId × Value → H) :
    ReturnsInHanded {} Try.checked os 3 .any (Rows.lruChangesSpec.pre6 enc Try.prog Try.f3 Rows.lruChangesRow.domain false) (Rows.lruChangesSpec.post enc Try.prog Try.f3 false true false false) := by
  refine returnsInHanded_of_change (C := Try.checked) own started (by kernel_rfl) Try.func3
    (ChangeSpec.witness6 (enc := enc) (C := Try.checked) false ⟨#[], #[.agg #[.slice none 0 0, .slice none 0 0, .slice none 0 0], .int .i64 0, .int .i64 0], []⟩ 8 (by kernel_rfl) (by kernel_rfl) (by kernel_rfl) (by kernel_rfl)) ?_
  intro W base args ds gs before hval0 hW hcnd _
  have hval : ∀ (j : Nat) t v, Try.f3.params[j]? = some t → args[j]? = some v → Value.okWide Try.prog W .any base t v := hval0
  have hW' := hW
  obtain ⟨p, q, hA0, hV, rfl, hfz, hnd⟩ := hW
  have hA : DataW.TrodAll enc Try.prog W 0 (fun _ => true) true Try.f3.params.toList args.toList ds p := hA0
  rw [Try.params3] at hA hval
  obtain ⟨v0, vs0, d0, ds0, p0, q0, hargs, rfl, rfl, h0, r0⟩ := trodAll_cons hA
  obtain ⟨v1, vs1, d1, ds1, p1, q1, rfl, rfl, rfl, h1, r1⟩ := trodAll_cons r0
  obtain ⟨v2, vs2, d2, ds2, p2, q2, rfl, rfl, rfl, h2, r2⟩ := trodAll_cons r1
  obtain ⟨rfl, rfl, rfl⟩ := trodAll_nil r2
  obtain rfl : args = #[v0, v1, v2] := by cases args; simp_all
  obtain ⟨rfl, rfl⟩ := trodVars_none hV
  obtain ⟨c0, c1, c2, y0, y1, y2, m0, rfl, rfl, rfl, hy0, hy1, hy2⟩ := open_agg3 Try.underlying25 (by kernel_rfl) (by kernel_rfl) (hval 0 25 v0 rfl rfl) h0
  obtain ⟨AL0, kL0, aL0, rfl, sL0, wL0, lL0⟩ := open_cellsI Try.underlying22 Try.underlying3 (by kernel_rfl) hy0
  obtain ⟨AL1, kL1, aL1, rfl, sL1, wL1, lL1⟩ := open_cellsI Try.underlying22 Try.underlying3 (by kernel_rfl) hy1
  obtain ⟨AL2, kL2, aL2, rfl, sL2, lL2⟩ := open_cellsB Try.underlying23 Try.underlying4 (by kernel_rfl) hy2
  obtain ⟨a1, rfl, rfl, rfl, w1⟩ := open_int Try.underlying3 (hval 1 3 v1 rfl rfl) h1
  obtain ⟨a2, rfl, rfl, rfl, w2⟩ := open_int Try.underlying3 (hval 2 3 v2 rfl rfl) h2
  clear hA0 hval0
  refine (lruChanges_walk AL0 AL1 AL2 kL0 kL1 kL2 aL0 aL1 aL2 a1 a2 W sL0 sL1 sL2 wL0 wL1 lL0 lL1 lL2 w1 w2).mono fun e W' ⟨he, hb⟩ => ⟨_, he, ?_⟩
  exact law_post laidOut (s := Rows.lruChangesSpec) (B := 4) rfl rfl Try.underlying4 (by decide +kernel) hW' rfl hb

theorem lruChanges_holds : Rows.LruChangesSaid :=
  OpenClaim.holds_of_wide 3 Try.f3 rfl rfl rfl rfl rfl rfl rfl ⟨rfl, rfl, rfl, rfl, rfl⟩ rfl rfl rfl rfl rfl (by kernel_rfl) Try.func3 (by kernel_rfl)
    (of_decide_eq_true (by kernel_rfl)) (by unfold Func.isWrapper; first | (rw [if_pos (by decide +kernel)]; kernel_rfl) | (rw [if_neg (by decide +kernel)]; exact ⟨rfl, rfl⟩))
    (fun os started H enc _ => lruChanges_lifted os started H enc)

end Go.Proofs.Ytjilfijpepbfeaa
