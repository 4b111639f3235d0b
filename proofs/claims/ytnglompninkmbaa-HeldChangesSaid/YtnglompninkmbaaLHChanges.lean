/- HeldChanges: the statement holds for every list of writes and every two numbers. -/
import Derived.Test.YtnglompninkmbaaHeldE
import Derived.Test.YtnglompninkmbaaHeldT
import Derived.Test.YtnglompninkmbaaCloseW
namespace Go.Proofs.Ytnglompninkmbaa
open Go.RowKit Go.Maps
open Go.ChangeShapes Go.WideShapes Go.ChangeAt Go.Joins Go.Deep

set_option maxRecDepth 100000 in
set_option maxHeartbeats 4000000 in
theorem heldChanges_walk (A : Option Addr) (c : Nat) (l : List Wr) (s f : Int) (w : World) (ha : CW w A c l) (hl0 : l.length ≤ maxLen) (_hn : (Lit.int .i64 s).wf = true) (_hm : (Lit.int .i64 f).wf = true) :
    Calls Try.prog 5 #[.slice A l.length c, .int .i64 s, .int .i64 f] w fun e w' => e = .returned (.bool true) ∧ Below w.heap.size w w' := by
  have hl : l.length ≤ 9223372036854775807 := by unfold maxLen at hl0; exact hl0
  have HA := Lib.hid ha
  have hlc := ha.2
  clear ha
  by_cases h20 : 20 < l.length
  · have h20' : (20 : Int) < l.length := by omega
    go_enter Try.func5, Try.ntmps5
    go_wp2_with fail
    refine (awake_any _).mono ?_
    rintro e w2 ⟨rfl, hb2⟩
    go_wp2_with fail
    go_ret
    exact ⟨rfl, (by repeat' (first | with_reducible exact Below.refl _ _ | with_reducible assumption | with_reducible apply Below.drew | with_reducible apply below_drewN | with_reducible apply Below.alloc | with_reducible apply Below.setCell | (with_reducible refine Below.trans ?_ (Below.mono (by assumption) ?_)) | (simp; done) | (simp; omega) | omega | with_reducible apply le_size_alloc | with_reducible apply le_size_drewN | with_reducible apply le_size_drew | with_reducible apply le_size_setCell | refine Nat.le_trans ?_ (Below.size (by assumption))))⟩
  · have h20' : (l.length : Int) ≤ 20 := by omega
    obtain ⟨⟨z, n⟩, hC⟩ : ∃ R, chkS l = R := ⟨_, rfl⟩
    obtain ⟨⟨a, y⟩, hD⟩ : ∃ R, addS l s f = R := ⟨_, rfl⟩
    obtain ⟨⟨m, u⟩, hF⟩ : ∃ R, findS l s = R := ⟨_, rfl⟩
    obtain ⟨⟨r, x, v⟩, hR⟩ : ∃ R, remS l s = R := ⟨_, rfl⟩
    have hla : a.length ≤ 1000 := by
      have := congrArg (fun R => R.1.length) hD
      simp only at this
      rw [← this]
      unfold addS
      split
      · simp
      · split
        · split
          · simp
          · split <;> simp <;> omega
        · simp
    have hlr : r.length ≤ 1000 := by
      have := congrArg (fun R => R.1.length) hR
      simp only at this
      rw [← this]
      unfold remS
      split <;> simp <;> omega
    have HC := Lib.hid hC; have HD := Lib.hid hD; have HF := Lib.hid hF; have HR := Lib.hid hR
    clear hC hD hF hR
    have heq := fun W => eq_wr W x x
    rw [decide_eq_true rfl] at heq
    go_enter Try.func5, Try.ntmps5
    go_wp2_with fail
    refine (OwnWrites_any A c l w HA.out.1 (by omega)).mono ?_
    rintro e w1 ⟨A1, c1, rfl, hc1, hb1⟩
    go_wp2_with fail
    refine (Check_any A1 c1 l w1 hc1.1 (by omega) HC.out).mono ?_
    rintro e w2 ⟨rfl, hb2⟩
    go_wp2_with fail
    refine (RCheck_any A c l w2 (HA.out.1.ext (by repeat' (first | with_reducible exact Below.refl _ _ | with_reducible assumption | with_reducible apply Below.drew | with_reducible apply below_drewN | with_reducible apply Below.alloc | with_reducible apply Below.setCell | (with_reducible refine Below.trans ?_ (Below.mono (by assumption) ?_)) | (simp; done) | (simp; omega) | omega | with_reducible apply le_size_alloc | with_reducible apply le_size_drewN | with_reducible apply le_size_drew | with_reducible apply le_size_setCell | refine Nat.le_trans ?_ (Below.size (by assumption))))) (by omega) HC.out).mono ?_
    rintro e w3 ⟨rfl, hb3⟩
    go_wp2_with fail
    refine (Add_any A1 c1 l s f w3 (hc1.ext (by repeat' (first | with_reducible exact Below.refl _ _ | with_reducible assumption | with_reducible apply Below.drew | with_reducible apply below_drewN | with_reducible apply Below.alloc | with_reducible apply Below.setCell | (with_reducible refine Below.trans ?_ (Below.mono (by assumption) ?_)) | (simp; done) | (simp; omega) | omega | with_reducible apply le_size_alloc | with_reducible apply le_size_drewN | with_reducible apply le_size_drew | with_reducible apply le_size_setCell | refine Nat.le_trans ?_ (Below.size (by assumption))))) (by omega)).mono ?_
    unfold AddPost
    rw [HD.out]
    rintro e w4 ⟨A4, c4, rfl, hc4, hb4⟩
    go_wp2_with fail
    refine (RAdd_any A c l s f w4 (HA.out.1.ext (by repeat' (first | with_reducible exact Below.refl _ _ | with_reducible assumption | with_reducible apply Below.drew | with_reducible apply below_drewN | with_reducible apply Below.alloc | with_reducible apply Below.setCell | (with_reducible refine Below.trans ?_ (Below.mono (by assumption) ?_)) | (simp; done) | (simp; omega) | omega | with_reducible apply le_size_alloc | with_reducible apply le_size_drewN | with_reducible apply le_size_drew | with_reducible apply le_size_setCell | refine Nat.le_trans ?_ (Below.size (by assumption))))) (by omega)).mono ?_
    unfold AddPost
    rw [HD.out]
    rintro e w5 ⟨A5, c5, rfl, hc5, hb5⟩
    go_wp2_with fail
    refine (SameWrites_any A4 A5 c4 c5 a a w5 (hc4.1.ext hb5) hc5.1 hla hla).mono ?_
    rw [decide_eq_true rfl]
    rintro e w6 ⟨rfl, hb6⟩
    go_wp2_with fail
    refine (Find_any A1 c1 l s w6 (hc1.1.ext (by repeat' (first | with_reducible exact Below.refl _ _ | with_reducible assumption | with_reducible apply Below.drew | with_reducible apply below_drewN | with_reducible apply Below.alloc | with_reducible apply Below.setCell | (with_reducible refine Below.trans ?_ (Below.mono (by assumption) ?_)) | (simp; done) | (simp; omega) | omega | with_reducible apply le_size_alloc | with_reducible apply le_size_drewN | with_reducible apply le_size_drew | with_reducible apply le_size_setCell | refine Nat.le_trans ?_ (Below.size (by assumption))))) (by omega) HF.out).mono ?_
    rintro e w7 ⟨rfl, hb7⟩
    go_wp2_with fail
    refine (RFind_any A c l s w7 (HA.out.1.ext (by repeat' (first | with_reducible exact Below.refl _ _ | with_reducible assumption | with_reducible apply Below.drew | with_reducible apply below_drewN | with_reducible apply Below.alloc | with_reducible apply Below.setCell | (with_reducible refine Below.trans ?_ (Below.mono (by assumption) ?_)) | (simp; done) | (simp; omega) | omega | with_reducible apply le_size_alloc | with_reducible apply le_size_drewN | with_reducible apply le_size_drew | with_reducible apply le_size_setCell | refine Nat.le_trans ?_ (Below.size (by assumption))))) (by omega) HF.out).mono ?_
    rintro e w8 ⟨rfl, hb8⟩
    have B18 : Below w1.heap.size w1 w8 := (by repeat' (first | with_reducible exact Below.refl _ _ | with_reducible assumption | with_reducible apply Below.drew | with_reducible apply below_drewN | with_reducible apply Below.alloc | with_reducible apply Below.setCell | (with_reducible refine Below.trans ?_ (Below.mono (by assumption) ?_)) | (simp; done) | (simp; omega) | omega | with_reducible apply le_size_alloc | with_reducible apply le_size_drewN | with_reducible apply le_size_drew | with_reducible apply le_size_setCell | refine Nat.le_trans ?_ (Below.size (by assumption))))
    have B08 : Below w.heap.size w w8 := (by repeat' (first | with_reducible exact Below.refl _ _ | with_reducible assumption | with_reducible apply Below.drew | with_reducible apply below_drewN | with_reducible apply Below.alloc | with_reducible apply Below.setCell | (with_reducible refine Below.trans ?_ (Below.mono (by assumption) ?_)) | (simp; done) | (simp; omega) | omega | with_reducible apply le_size_alloc | with_reducible apply le_size_drewN | with_reducible apply le_size_drew | with_reducible apply le_size_setCell | refine Nat.le_trans ?_ (Below.size (by assumption))))
    clear hc4 hc5
    go_wp2_with fail
    refine (Remove_any A1 c1 l s w8 (hc1.ext B18) (by omega)).mono ?_
    unfold RemPost
    rw [HR.out]
    rintro e w9 ⟨A9, c9, rfl, hc9, hb9⟩
    have B19 : Below w1.heap.size w1 w9 := B18.trans (hb9.mono B18.size)
    have B09 : Below w.heap.size w w9 := B08.trans (hb9.mono B08.size)
    clear hb1 hb2 hb3 hb4 hb5 hb6 hb7 hb8 hb9 B18 B08
    go_wp2_with fail
    obtain ⟨V, hV⟩ : ∃ V, w9.alloc (.cells #[.int .i64 x.1, .int .i64 x.2.1, .int .i64 x.2.2] 28) = V := ⟨_, rfl⟩
    have BV : Below w9.heap.size w9 V := by rw [← hV]; exact (Below.refl _ _).alloc (Nat.le_refl _) _
    have kb : Blk V w9.heap.size 28 #[.int .i64 x.1, .int .i64 x.2.1, .int .i64 x.2.2] := by rw [← hV]; exact Blk.new_ rfl rfl
    rw [hV]
    clear hV
    have B0V : Below w.heap.size w V := B09.trans (BV.mono B09.size)
    have B1V : Below w1.heap.size w1 V := B19.trans (BV.mono B19.size)
    refine (RRemove_any A c l s V (HA.out.ext B0V) (by omega)).mono ?_
    unfold RemPost
    rw [HR.out]
    rintro e wa ⟨Aa, ca, rfl, hca, hba⟩
    have kb2 := kb.below_ hba kb.lt
    have zz := Nat.lt_of_lt_of_le kb.lt hba.size
    have zn : ¬ w9.heap.size = wa.heap.size := by omega
    have k0 : wa.cell? ⟨w9.heap.size, 0, none⟩ = some (.int .i64 x.1) := (kb2.cell_ 0).trans (by simp)
    have k1 : wa.cell? ⟨w9.heap.size, 1, none⟩ = some (.int .i64 x.2.1) := (kb2.cell_ 1).trans (by simp)
    have k2 : wa.cell? ⟨w9.heap.size, 2, none⟩ = some (.int .i64 x.2.2) := (kb2.cell_ 2).trans (by simp)
    obtain ⟨U, hU⟩ : ∃ U, wa.alloc (.cells #[.int .i64 x.1, .int .i64 x.2.1, .int .i64 x.2.2] 28) = U := ⟨_, rfl⟩
    have BU : Below wa.heap.size wa U := by rw [← hU]; exact (Below.refl _ _).alloc (Nat.le_refl _) _
    have BVa : Below V.heap.size V U := hba.trans (BU.mono hba.size)
    have B0U : Hid (Below w.heap.size w U) := B0V.trans (BVa.mono B0V.size)
    have H9 : Hid (SW U A9 r) := (hc9.1.ext BV).ext BVa
    have Ha : Hid (SW U Aa r) := hca.1.ext BU
    have H1 : Hid (SW U A1 l) := hc1.1.ext (B1V.trans (BVa.mono B1V.size))
    have H0 : Hid (SW U A l) := HA.out.1.ext B0U.out
    have kbU : Blk U w9.heap.size 28 #[.int .i64 x.1, .int .i64 x.2.1, .int .i64 x.2.2] := kb2.below_ BU kb2.lt
    have kbU2 : Blk U wa.heap.size 28 #[.int .i64 x.1, .int .i64 x.2.1, .int .i64 x.2.2] := by rw [← hU]; exact Blk.new_ rfl rfl
    have KU := Lib.hid (And.intro kbU kbU2)
    clear kb kb2 BV B19 B09 hba hc9 hca hc1 BU BVa B0V B1V kbU kbU2
    go_wp2_with fail
    refine (SameWrites_any A9 Aa c9 ca r r U H9.out Ha.out hlr hlr).mono ?_
    rw [decide_eq_true rfl]
    rintro e wb ⟨rfl, hbb⟩
    have q1 := KU.out.1.below_ hbb KU.out.1.lt
    have q2 := KU.out.2.below_ hbb KU.out.2.lt
    have g0 : wb.cell? ⟨w9.heap.size, 0, none⟩ = some (.int .i64 x.1) := (q1.cell_ 0).trans (by simp)
    have g1 : wb.cell? ⟨w9.heap.size, 1, none⟩ = some (.int .i64 x.2.1) := (q1.cell_ 1).trans (by simp)
    have g2 : wb.cell? ⟨w9.heap.size, 2, none⟩ = some (.int .i64 x.2.2) := (q1.cell_ 2).trans (by simp)
    have g3 : wb.cell? ⟨wa.heap.size, 0, none⟩ = some (.int .i64 x.1) := (q2.cell_ 0).trans (by simp)
    have g4 : wb.cell? ⟨wa.heap.size, 1, none⟩ = some (.int .i64 x.2.1) := (q2.cell_ 1).trans (by simp)
    have g5 : wb.cell? ⟨wa.heap.size, 2, none⟩ = some (.int .i64 x.2.2) := (q2.cell_ 2).trans (by simp)
    clear q1 q2
    go_wp2_with fail
    refine (SameWrites_any A1 A c1 c l l wb (H1.out.ext hbb) (H0.out.ext hbb) (by omega) (by omega)).mono ?_
    rw [decide_eq_true rfl]
    rintro e wc ⟨rfl, hbc⟩
    go_wp2_with fail
    refine (awake_any _).mono ?_
    rintro e wd ⟨rfl, hbd⟩
    have hbE : Below U.heap.size U wd := (by repeat' (first | with_reducible exact Below.refl _ _ | with_reducible assumption | with_reducible apply Below.drew | with_reducible apply below_drewN | with_reducible apply Below.alloc | with_reducible apply Below.setCell | (with_reducible refine Below.trans ?_ (Below.mono (by assumption) ?_)) | (simp; done) | (simp; omega) | omega | with_reducible apply le_size_alloc | with_reducible apply le_size_drewN | with_reducible apply le_size_drew | with_reducible apply le_size_setCell | refine Nat.le_trans ?_ (Below.size (by assumption))))
    go_wp2_with fail
    go_ret
    exact ⟨rfl, B0U.out.trans (hbE.mono B0U.out.size)⟩


set_option maxRecDepth 100000 in
theorem heldChanges_lifted (os : Os) (started : os.Started) (H : Type) (enc : TypeId × Value → H) :
    ReturnsInHanded {} Try.checked os 5 .any (Rows.heldChangesSpec.pre6 enc Try.prog Try.f5 Rows.heldChangesRow.domain false) (Rows.heldChangesSpec.post enc Try.prog Try.f5 false true false false) := by
  refine returnsInHanded_of_change (C := Try.checked) own started (by kernel_rfl) Try.func5
    (ChangeSpec.witness6 (enc := enc) (C := Try.checked) false ⟨#[], #[.slice none 0 0, .int .i64 0, .int .i64 0], []⟩ 8 (by kernel_rfl) (by kernel_rfl) (by kernel_rfl) (by kernel_rfl)) ?_
  intro W base args ds gs before hval0 hW hcnd _
  have hval : ∀ (j : Nat) t v, Try.f5.params[j]? = some t → args[j]? = some v → Value.okWide Try.prog W .any base t v := hval0
  have hW' := hW
  obtain ⟨p, q, hA0, hV, rfl, hfz, hnd⟩ := hW
  have hA : DataW.TrodAll enc Try.prog W 0 (fun _ => true) true Try.f5.params.toList args.toList ds p := hA0
  rw [Try.params5] at hA hval
  obtain ⟨v0, vs0, d0, ds0, p0, q0, hargs, rfl, rfl, h0, r0⟩ := trodAll_cons hA
  obtain ⟨v1, vs1, d1, ds1, p1, q1, rfl, rfl, rfl, h1, r1⟩ := trodAll_cons r0
  obtain ⟨v2, vs2, d2, ds2, p2, q2, rfl, rfl, rfl, h2, r2⟩ := trodAll_cons r1
  obtain ⟨rfl, rfl, rfl⟩ := trodAll_nil r2
  obtain rfl : args = #[v0, v1, v2] := by cases args; simp_all
  obtain ⟨rfl, rfl⟩ := trodVars_none hV
  obtain ⟨A0, k0, a0, rfl, s0, l0⟩ := open_slW Try.underlying23 Try.underlying28 (by kernel_rfl) rfl rfl rfl (by kernel_rfl) (by kernel_rfl) (by kernel_rfl) Try.underlying3 Try.underlying3 Try.underlying3 (hval 0 23 v0 rfl rfl) h0
  obtain ⟨a1, rfl, rfl, rfl, w1⟩ := open_int Try.underlying3 (hval 1 3 v1 rfl rfl) h1
  obtain ⟨a2, rfl, rfl, rfl, w2⟩ := open_int Try.underlying3 (hval 2 3 v2 rfl rfl) h2
  clear hA0 hval0
  refine (heldChanges_walk A0 k0 a0 a1 a2 W s0 l0 w1 w2).mono fun e W' ⟨he, hb⟩ => ⟨_, he, ?_⟩
  exact law_post laidOut (s := Rows.heldChangesSpec) (B := 4) rfl rfl Try.underlying4 (by decide +kernel) hW' rfl hb

theorem heldChanges_holds : Rows.HeldChangesSaid :=
  OpenClaim.holds_of_wide 5 Try.f5 rfl rfl rfl rfl rfl rfl rfl ⟨rfl, rfl, rfl, rfl, rfl⟩ rfl rfl rfl rfl rfl (by kernel_rfl) Try.func5 (by kernel_rfl)
    (of_decide_eq_true (by kernel_rfl)) (by unfold Func.isWrapper; first | (rw [if_pos (by decide +kernel)]; kernel_rfl) | (rw [if_neg (by decide +kernel)]; exact ⟨rfl, rfl⟩))
    (fun os started H enc _ => heldChanges_lifted os started H enc)

end Go.Proofs.Ytnglompninkmbaa
