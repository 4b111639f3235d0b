/- BalanceWhich: the statement holds for every lists. Written by gen_bwhich.py. -/
import Derived.Test.YtifimhfdapkpoaaRef31
import Derived.Test.YtifimhfdapkpoaaCloseL
namespace Go.Proofs.Ytifimhfdapkpoaa
open Go.RowKit Go.Maps
open Go.ChangeShapes Go.WideShapes Go.ChangeAt Go.Joins

set_option maxRecDepth 100000 in
set_option maxHeartbeats 4000000 in
theorem balanceWhich_walk (Aa Ai Ar : Option Addr) (ca ci cr : Nat) (xs ys : List Int) (rs : List Bool) (w : World) (sa : Sl w (.int .i64) Aa xs) (si : Sl w (.int .i64) Ai ys) (sr : Sl w .bool Ar rs)
    (wa : ∀ x ∈ xs, (Lit.int .i64 x).wf = true) (wi : ∀ x ∈ ys, (Lit.int .i64 x).wf = true) (la0 : xs.length ≤ 140737488351232) (li0 : ys.length ≤ 140737488351232) (lr0 : rs.length ≤ maxLen) :
    Calls Try.prog 7 #[.agg #[.slice Aa xs.length ca, .slice Ai ys.length ci, .slice Ar rs.length cr]] w fun e w' => e = .returned (.bool true) ∧ Below w.heap.size w w' := by
  have lr : rs.length ≤ 9223372036854775807 := by unfold maxLen at lr0; exact lr0
  clear lr0
  by_cases h60 : 60 < xs.length + ys.length
  · clear sa si sr wa wi
    have d1 : decide ((60 : Int) < (xs.length : Int) + ys.length) = true := by simp; omega
    go_enter Try.func7, Try.ntmps7
    go_wp2_with fail
    refine (awake_any _).mono ?_
    rintro e w2 ⟨rfl, h2⟩
    go_wp2
    go_ret
    exact ⟨rfl, (by repeat' (first | with_reducible exact Below.refl _ _ | with_reducible assumption | with_reducible apply Below.drew | with_reducible apply below_drewN | with_reducible apply Below.alloc | with_reducible apply Below.setCell | (with_reducible refine Below.trans ?_ (Below.mono (by assumption) ?_)) | (simp; done) | (simp; omega) | omega | with_reducible apply le_size_alloc | with_reducible apply le_size_drewN | with_reducible apply le_size_drew | with_reducible apply le_size_setCell | refine Nat.le_trans ?_ (Below.size (by assumption))))⟩
  by_cases h260 : 260 < rs.length
  · clear sa si sr wa wi
    have d1 : decide ((60 : Int) < (xs.length : Int) + ys.length) = false := by simp; omega
    have d2 : decide ((260 : Int) < rs.length) = true := by simp; omega
    go_enter Try.func7, Try.ntmps7
    go_wp2_with fail
    refine (awake_any _).mono ?_
    rintro e w2 ⟨rfl, h2⟩
    go_wp2
    go_ret
    exact ⟨rfl, (by repeat' (first | with_reducible exact Below.refl _ _ | with_reducible assumption | with_reducible apply Below.drew | with_reducible apply below_drewN | with_reducible apply Below.alloc | with_reducible apply Below.setCell | (with_reducible refine Below.trans ?_ (Below.mono (by assumption) ?_)) | (simp; done) | (simp; omega) | omega | with_reducible apply le_size_alloc | with_reducible apply le_size_drewN | with_reducible apply le_size_drew | with_reducible apply le_size_setCell | refine Nat.le_trans ?_ (Below.size (by assumption))))⟩
  · have l1 : xs.length ≤ 60 := by omega
    have l2 : ys.length ≤ 60 := by omega
    have l3 : rs.length ≤ 260 := by omega
    have d1 : decide ((60 : Int) < (xs.length : Int) + ys.length) = false := by simp; omega
    have d2 : decide ((260 : Int) < rs.length) = false := by simp; omega
    have hm : InMem w Aa Ai Ar xs ys rs := ⟨sa, si, sr, by omega, by omega, by omega, wa, wi⟩
    have HM := Lib.hid hm
    obtain ⟨wv, hwv⟩ : ∃ n, whichV xs ys rs = n := ⟨_, rfl⟩
    obtain ⟨lv, hlv⟩ : ∃ n, lacksV xs ys rs = n := ⟨_, rfl⟩
    obtain ⟨sv, hsv⟩ : ∃ n, stepsV xs ys rs = n := ⟨_, rfl⟩
    obtain ⟨ck, hck⟩ : ∃ n, lruChk xs ys rs = n := ⟨_, rfl⟩
    have HWV := Lib.hid hwv; have HLV := Lib.hid hlv; have HSV := Lib.hid hsv; have HCK := Lib.hid hck
    clear sa si sr wa wi hm hwv hlv hsv hck
    go_enter Try.func7, Try.ntmps7
    go_wp2_with fail
    have M1 := Lib.hid (HM.out.ext (w' := w.alloc (.cells #[.slice Aa xs.length ca, .slice Ai ys.length ci, .slice Ar rs.length cr] 33)) (by repeat' (first | with_reducible exact Below.refl _ _ | with_reducible assumption | with_reducible apply Below.drew | with_reducible apply below_drewN | with_reducible apply Below.alloc | with_reducible apply Below.setCell | (with_reducible refine Below.trans ?_ (Below.mono (by assumption) ?_)) | (simp; done) | (simp; omega) | omega | with_reducible apply le_size_alloc | with_reducible apply le_size_drewN | with_reducible apply le_size_drew | with_reducible apply le_size_setCell | refine Nat.le_trans ?_ (Below.size (by assumption)))))
    refine (OwnLists_any _ _ _ _ _ _ _ _ _ _ M1.out.a M1.out.i M1.out.r (by omega) (by omega) (by omega)).mono ?_
    rintro e w2 ⟨X1, x1, X2, x2, X3, x3, rfl, ox, h2⟩
    obtain ⟨W2, hW2⟩ : ∃ W2, W2 = w2.alloc (.cells #[.slice X1 xs.length x1, .slice X2 ys.length x2, .slice X3 rs.length x3] 33) := ⟨_, rfl⟩
    have hbx : Below w2.heap.size w2 W2 := by rw [hW2]; exact (by repeat' (first | with_reducible exact Below.refl _ _ | with_reducible assumption | with_reducible apply Below.drew | with_reducible apply below_drewN | with_reducible apply Below.alloc | with_reducible apply Below.setCell | (with_reducible refine Below.trans ?_ (Below.mono (by assumption) ?_)) | (simp; done) | (simp; omega) | omega | with_reducible apply le_size_alloc | with_reducible apply le_size_drewN | with_reducible apply le_size_drew | with_reducible apply le_size_setCell | refine Nat.le_trans ?_ (Below.size (by assumption))))
    have sz2 : W2.heap.size = w2.heap.size + 1 := by rw [hW2]; simp
    have hz2 := h2.size
    simp only [World.size_alloc] at hz2
    have bl2 : Blk w2 w.heap.size 33 #[.slice Aa xs.length ca, .slice Ai ys.length ci, .slice Ar rs.length cr] := (Blk.new_ (w := w) rfl rfl).below_ h2 (by simp)
    have mx : InMem w2 X1 X2 X3 xs ys rs := ox.mem (by omega) (by omega) (by omega) HM.out.wa HM.out.wi
    have MX := Lib.hid (mx.ext hbx)
    have ML := Lib.hid ((M1.out.ext h2).ext hbx)
    have BL := Lib.hid (bl2.below_ hbx (by omega))
    have BX : Hid (Blk W2 w2.heap.size 33 #[.slice X1 xs.length x1, .slice X2 ys.length x2, .slice X3 rs.length x3]) := by rw [hW2]; exact Blk.new_ rfl rfl
    have HW : Hid (Below w.heap.size w W2) := by
      show Below _ _ _
      rw [hW2]
      exact (by repeat' (first | with_reducible exact Below.refl _ _ | with_reducible assumption | with_reducible apply Below.drew | with_reducible apply below_drewN | with_reducible apply Below.alloc | with_reducible apply Below.setCell | (with_reducible refine Below.trans ?_ (Below.mono (by assumption) ?_)) | (simp; done) | (simp; omega) | omega | with_reducible apply le_size_alloc | with_reducible apply le_size_drewN | with_reducible apply le_size_drew | with_reducible apply le_size_setCell | refine Nat.le_trans ?_ (Below.size (by assumption))))
    have zx : w2.heap.size < W2.heap.size := by omega
    have zl : w.heap.size < W2.heap.size := by omega
    have HBW2 : Hid (Below W2.heap.size W2 W2) := Below.refl _ _
    clear mx ox sz2 h2 hbx M1 bl2 hz2 d1 d2
    have kx0 := ((BX.out.below_ HBW2.out zx).cell_ 0).trans (by simp : _ = some (.slice X1 xs.length x1))
    have kx1 := ((BX.out.below_ HBW2.out zx).cell_ 1).trans (by simp : _ = some (.slice X2 ys.length x2))
    have kx2 := ((BX.out.below_ HBW2.out zx).cell_ 2).trans (by simp : _ = some (.slice X3 rs.length x3))
    go_wp2_with fail
    rw [← hW2]
    clear hW2
    refine (Which_S _ _ _ _ _ _ _ _ _ _ MX.out).mono ?_
    rw [HWV.out, HCK.out]
    rintro e w3 ⟨rfl, h3⟩
    have HBw3 := Lib.hid h3
    have Zw3 : W2.heap.size ≤ w3.heap.size := h3.size
    clear kx0 kx1 kx2 h3
    have kl0 := ((BL.out.below_ HBw3.out zl).cell_ 0).trans (by simp : _ = some (.slice Aa xs.length ca))
    have kl1 := ((BL.out.below_ HBw3.out zl).cell_ 1).trans (by simp : _ = some (.slice Ai ys.length ci))
    have kl2 := ((BL.out.below_ HBw3.out zl).cell_ 2).trans (by simp : _ = some (.slice Ar rs.length cr))
    go_wp2_with fail
    refine (RWhich_S _ _ _ _ _ _ _ _ _ _ (ML.out.ext HBw3.out) (by omega)).mono ?_
    rw [HWV.out, HCK.out]
    rintro e w4 ⟨rfl, hw4⟩
    have HBw4 : Hid (Below W2.heap.size W2 w4) := HBw3.out.trans (hw4.mono Zw3)
    have Zw4 : W2.heap.size ≤ w4.heap.size := HBw4.out.size
    have zw4 : w3.heap.size ≤ w4.heap.size := hw4.size
    clear kl0 kl1 kl2
    have kx0 := ((BX.out.below_ HBw4.out zx).cell_ 0).trans (by simp : _ = some (.slice X1 xs.length x1))
    have kx1 := ((BX.out.below_ HBw4.out zx).cell_ 1).trans (by simp : _ = some (.slice X2 ys.length x2))
    have kx2 := ((BX.out.below_ HBw4.out zx).cell_ 2).trans (by simp : _ = some (.slice X3 rs.length x3))
    go_wp2_with fail
    refine (Lacks_S _ _ _ _ _ _ _ _ _ _ (MX.out.ext HBw4.out)).mono ?_
    rw [HLV.out, HCK.out]
    rintro e w5 ⟨rfl, hw5⟩
    have HBw5 : Hid (Below W2.heap.size W2 w5) := HBw4.out.trans (hw5.mono Zw4)
    have Zw5 : W2.heap.size ≤ w5.heap.size := HBw5.out.size
    have zw5 : w4.heap.size ≤ w5.heap.size := hw5.size
    clear kx0 kx1 kx2
    have kl0 := ((BL.out.below_ HBw5.out zl).cell_ 0).trans (by simp : _ = some (.slice Aa xs.length ca))
    have kl1 := ((BL.out.below_ HBw5.out zl).cell_ 1).trans (by simp : _ = some (.slice Ai ys.length ci))
    have kl2 := ((BL.out.below_ HBw5.out zl).cell_ 2).trans (by simp : _ = some (.slice Ar rs.length cr))
    go_wp2_with fail
    refine (RLacks_S _ _ _ _ _ _ _ _ _ _ (ML.out.ext HBw5.out) (by omega)).mono ?_
    rw [HLV.out, HCK.out]
    rintro e w6 ⟨rfl, hw6⟩
    have HBw6 : Hid (Below W2.heap.size W2 w6) := HBw5.out.trans (hw6.mono Zw5)
    have Zw6 : W2.heap.size ≤ w6.heap.size := HBw6.out.size
    have zw6 : w5.heap.size ≤ w6.heap.size := hw6.size
    clear kl0 kl1 kl2
    have kx0 := ((BX.out.below_ HBw6.out zx).cell_ 0).trans (by simp : _ = some (.slice X1 xs.length x1))
    have kx1 := ((BX.out.below_ HBw6.out zx).cell_ 1).trans (by simp : _ = some (.slice X2 ys.length x2))
    have kx2 := ((BX.out.below_ HBw6.out zx).cell_ 2).trans (by simp : _ = some (.slice X3 rs.length x3))
    go_wp2_with fail
    refine (Steps_S _ _ _ _ _ _ _ _ _ _ (MX.out.ext HBw6.out)).mono ?_
    rw [HSV.out, HCK.out]
    rintro e w7 ⟨rfl, hw7⟩
    have HBw7 : Hid (Below W2.heap.size W2 w7) := HBw6.out.trans (hw7.mono Zw6)
    have Zw7 : W2.heap.size ≤ w7.heap.size := HBw7.out.size
    have zw7 : w6.heap.size ≤ w7.heap.size := hw7.size
    clear kx0 kx1 kx2
    have kl0 := ((BL.out.below_ HBw7.out zl).cell_ 0).trans (by simp : _ = some (.slice Aa xs.length ca))
    have kl1 := ((BL.out.below_ HBw7.out zl).cell_ 1).trans (by simp : _ = some (.slice Ai ys.length ci))
    have kl2 := ((BL.out.below_ HBw7.out zl).cell_ 2).trans (by simp : _ = some (.slice Ar rs.length cr))
    go_wp2_with fail
    refine (RSteps_S _ _ _ _ _ _ _ _ _ _ (ML.out.ext HBw7.out) (by omega)).mono ?_
    rw [HSV.out, HCK.out]
    rintro e w8 ⟨rfl, hw8⟩
    have HBw8 : Hid (Below W2.heap.size W2 w8) := HBw7.out.trans (hw8.mono Zw7)
    have Zw8 : W2.heap.size ≤ w8.heap.size := HBw8.out.size
    have zw8 : w7.heap.size ≤ w8.heap.size := hw8.size
    clear kl0 kl1 kl2
    have kl0 := ((BL.out.below_ HBw8.out zl).cell_ 0).trans (by simp : _ = some (.slice Aa xs.length ca))
    have kl1 := ((BL.out.below_ HBw8.out zl).cell_ 1).trans (by simp : _ = some (.slice Ai ys.length ci))
    have kl2 := ((BL.out.below_ HBw8.out zl).cell_ 2).trans (by simp : _ = some (.slice Ar rs.length cr))
    have kx0 := ((BX.out.below_ HBw8.out zx).cell_ 0).trans (by simp : _ = some (.slice X1 xs.length x1))
    have kx1 := ((BX.out.below_ HBw8.out zx).cell_ 1).trans (by simp : _ = some (.slice X2 ys.length x2))
    have kx2 := ((BX.out.below_ HBw8.out zx).cell_ 2).trans (by simp : _ = some (.slice X3 rs.length x3))
    go_wp2_with fail
    refine (SameLists_any _ _ _ _ _ _ _ _ _ _ _ _ _ _ _ _ _ _ _ (MX.out.ext HBw8.out).a (MX.out.ext HBw8.out).i (MX.out.ext HBw8.out).r (ML.out.ext HBw8.out).a (ML.out.ext HBw8.out).i (ML.out.ext HBw8.out).r (by omega) (by omega) (by omega) (by omega) (by omega) (by omega)).mono ?_
    rw [decide_eq_true (show xs = xs ∧ ys = ys ∧ rs = rs from ⟨rfl, rfl, rfl⟩)]
    rintro e we ⟨rfl, he⟩
    have HBwe : Hid (Below W2.heap.size W2 we) := HBw8.out.trans (he.mono Zw8)
    have Zwe : W2.heap.size ≤ we.heap.size := HBwe.out.size
    have zwe : w8.heap.size ≤ we.heap.size := he.size
    clear kl0 kl1 kl2 kx0 kx1 kx2
    go_wp2_with fail
    refine (awake_any _).mono ?_
    rintro e wf ⟨rfl, hf⟩
    have HBwf : Hid (Below W2.heap.size W2 wf) := HBwe.out.trans (hf.mono Zwe)
    have Zwf : W2.heap.size ≤ wf.heap.size := HBwf.out.size
    have zwf : we.heap.size ≤ wf.heap.size := hf.size
    go_wp2
    go_ret
    exact ⟨by first | rfl | simp, HW.out.trans (HBwf.out.mono HW.out.size)⟩

set_option maxRecDepth 100000 in
theorem balanceWhich_lifted (os : Os) (started : os.Started) (H : Type) (enc : TypeId × Value → H) :
    ReturnsInHanded {} Try.checked os 7 .any (Rows.balanceWhichSpec.pre6 enc Try.prog Try.f7 Rows.balanceWhichRow.domain false) (Rows.balanceWhichSpec.post enc Try.prog Try.f7 false true false false) := by
  refine returnsInHanded_of_change_sized (C := Try.checked) own started (by kernel_rfl) Try.func7
    (ChangeSpec.witness6 (enc := enc) (C := Try.checked) false ⟨#[], #[.agg #[.slice none 0 0, .slice none 0 0, .slice none 0 0]], []⟩ 8 (by kernel_rfl) (by kernel_rfl) (by kernel_rfl) (by kernel_rfl)) ?_
  intro W base args ds gs before hval0 hW hcnd hsz0 _
  have hval : ∀ (j : Nat) t v, Try.f7.params[j]? = some t → args[j]? = some v → Value.okWide Try.prog W .any base t v := hval0
  have hW' := hW
  obtain ⟨p, q, hA0, hV, rfl, hfz, hnd⟩ := hW
  have hA : DataW.TrodAll enc Try.prog W 0 (fun _ => true) true Try.f7.params.toList args.toList ds p := hA0
  have hsz : (DataW.weightsEach Try.prog (Try.f7.params.toList ++ Rows.balanceWhichSpec.plain.varTypes Try.prog) (ds ++ gs)).all (· ≤ reachBytes) = true := hsz0
  rw [Try.params7] at hA hval hsz
  obtain ⟨v0, vs0, d0, ds0, p0, q0, hargs, rfl, rfl, h0, r0⟩ := trodAll_cons hA
  obtain ⟨rfl, rfl, rfl⟩ := trodAll_nil r0
  obtain rfl : args = #[v0] := by cases args; simp_all
  obtain ⟨rfl, rfl⟩ := trodVars_none hV
  obtain ⟨c0, c1, c2, y0, y1, y2, m0, rfl, rfl, rfl, hy0, hy1, hy2⟩ := open_agg3 Try.underlying33 (by kernel_rfl) (by kernel_rfl) (hval 0 33 v0 rfl rfl) h0
  obtain ⟨hr0, hr1⟩ := parts_reach Try.underlying33 hsz
  obtain ⟨AL0, kL0, aL0, rfl, sL0, wL0, lL0⟩ := open_cellsZ Try.underlying30 Try.underlying3 (by kernel_rfl) (by kernel_rfl) hy0 hr0
  obtain ⟨AL1, kL1, aL1, rfl, sL1, wL1, lL1⟩ := open_cellsZ Try.underlying30 Try.underlying3 (by kernel_rfl) (by kernel_rfl) hy1 hr1
  obtain ⟨AL2, kL2, aL2, rfl, sL2, lL2⟩ := open_cellsB Try.underlying31 Try.underlying4 (by kernel_rfl) hy2
  clear hA0 hval0
  refine (balanceWhich_walk AL0 AL1 AL2 kL0 kL1 kL2 aL0 aL1 aL2 W sL0 sL1 sL2 wL0 wL1 lL0 lL1 lL2).mono fun e W' ⟨he, hb⟩ => ⟨_, he, ?_⟩
  exact law_post laidOut (s := Rows.balanceWhichSpec) (B := 4) rfl rfl Try.underlying4 (by decide +kernel) hW' rfl hb

theorem balanceWhich_holds : Rows.BalanceWhichSaid :=
  OpenClaim.holds_of_wide 7 Try.f7 rfl rfl rfl rfl rfl rfl rfl ⟨rfl, rfl, rfl, rfl, rfl⟩ rfl rfl rfl rfl rfl (by kernel_rfl) Try.func7 (by kernel_rfl)
    (of_decide_eq_true (by kernel_rfl)) (by unfold Func.isWrapper; first | (rw [if_pos (by decide +kernel)]; kernel_rfl) | (rw [if_neg (by decide +kernel)]; exact ⟨rfl, rfl⟩))
    (fun os started H enc _ => balanceWhich_lifted os started H enc)

end Go.Proofs.Ytifimhfdapkpoaa
