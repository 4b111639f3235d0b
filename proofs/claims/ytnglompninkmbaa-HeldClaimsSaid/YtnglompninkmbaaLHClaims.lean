/- HeldClaims: the statement holds for every list of writes and every two numbers. -/
import Derived.Test.YtnglompninkmbaaHeldE
import Derived.Test.YtnglompninkmbaaHeldL
import Derived.Test.YtnglompninkmbaaKitS
import Derived.Test.YtnglompninkmbaaCloseW
namespace Go.Proofs.Ytnglompninkmbaa
open Go.RowKit Go.Maps
open Go.ChangeShapes Go.WideShapes Go.ChangeAt Go.Joins Go.Deep

theorem claS_len (l : List Wr) (s p : Int) : (claS l s p).1.length ≤ l.length := by
  unfold claS
  split
  · simp
  · split
    · split
      · simp
      · split
        · simp
        · split <;> simp
    · simp
theorem uncS_len (l : List Wr) (p : Int) : (uncS l p).1.length ≤ l.length := by
  unfold uncS
  split
  · simp
  · split <;> simp
theorem frmS_len (l : List Wr) (h : l.length ≤ 20) : (frmS l).1.length ≤ 100000 := by
  unfold frmS
  split
  · simp
  · have := frTo_len l 256
    have : 256 * l.length ≤ 256 * 20 := Nat.mul_le_mul (Nat.le_refl _) h
    simp only
    omega

set_option maxRecDepth 100000 in
set_option maxHeartbeats 4000000 in
theorem heldClaims_walk (A : Option Addr) (c : Nat) (l : List Wr) (s p : Int) (w : World) (ha : CW w A c l) (hl0 : l.length ≤ maxLen) (_hn : (Lit.int .i64 s).wf = true) (_hm : (Lit.int .i64 p).wf = true) :
    Calls Try.prog 7 #[.slice A l.length c, .int .i64 s, .int .i64 p] w fun e w' => e = .returned (.bool true) ∧ Below w.heap.size w w' := by
  have hl : l.length ≤ 9223372036854775807 := by unfold maxLen at hl0; exact hl0
  have HA := Lib.hid ha.1
  clear ha
  by_cases h20 : 20 < l.length
  · have h20' : (20 : Int) < l.length := by omega
    go_enter Try.func7, Try.ntmps7
    go_wp2_with fail
    refine (awake_any _).mono ?_
    rintro e w2 ⟨rfl, hb2⟩
    go_wp2_with fail
    go_ret
    exact ⟨rfl, (by repeat' (first | with_reducible exact Below.refl _ _ | with_reducible assumption | with_reducible apply Below.drew | with_reducible apply below_drewN | with_reducible apply Below.alloc | with_reducible apply Below.setCell | (with_reducible refine Below.trans ?_ (Below.mono (by assumption) ?_)) | (simp; done) | (simp; omega) | omega | with_reducible apply le_size_alloc | with_reducible apply le_size_drewN | with_reducible apply le_size_drew | with_reducible apply le_size_setCell | refine Nat.le_trans ?_ (Below.size (by assumption))))⟩
  · have h20' : (l.length : Int) ≤ 20 := by omega
    have hcl := claS_len l s p
    have hul := uncS_len l p
    have hfl := frmS_len l (by omega)
    have hfe := frames_eq l
    obtain ⟨⟨a, z⟩, hC⟩ : ∃ R, claS l s p = R := ⟨_, rfl⟩
    obtain ⟨⟨d, iu, y⟩, hU⟩ : ∃ R, uncS l p = R := ⟨_, rfl⟩
    obtain ⟨⟨x, io, v⟩, hO⟩ : ∃ R, ofS l p = R := ⟨_, rfl⟩
    obtain ⟨⟨fs, u⟩, hF⟩ : ∃ R, frmS l = R := ⟨_, rfl⟩
    rw [hC] at hcl
    rw [hU] at hul
    rw [hF] at hfl hfe
    have hla : a.length ≤ 1000 := Nat.le_trans hcl (by omega)
    have hld : d.length ≤ 1000 := Nat.le_trans hul (by omega)
    have HC := Lib.hid hC; have HU := Lib.hid hU; have HO := Lib.hid hO; have HF := Lib.hid hF; have HFE := Lib.hid hfe; have HFL := Lib.hid hfl
    clear hC hU hO hF hcl hul hfe hfl
    have heq := fun W => eq_wr W x x
    rw [decide_eq_true rfl] at heq
    go_enter Try.func7, Try.ntmps7
    go_wp2_with fail
    refine (OwnWrites_any A c l w HA.out (by omega)).mono ?_
    rintro e w1 ⟨A1, c1, rfl, hc1, hb1⟩
    have H1 := Lib.hid hc1.1
    clear hc1
    go_wp2_with fail
    refine (Claim_any A1 c1 l s p w1 H1.out (by omega)).mono ?_
    unfold AddPost
    rw [HC.out]
    rintro e w2 ⟨A2, c2, rfl, hc2, hb2⟩
    go_wp2_with fail
    refine (RClaim_any A c l s p w2 (HA.out.ext (by repeat' (first | with_reducible exact Below.refl _ _ | with_reducible assumption | with_reducible apply Below.drew | with_reducible apply below_drewN | with_reducible apply Below.alloc | with_reducible apply Below.setCell | (with_reducible refine Below.trans ?_ (Below.mono (by assumption) ?_)) | (simp; done) | (simp; omega) | omega | with_reducible apply le_size_alloc | with_reducible apply le_size_drewN | with_reducible apply le_size_drew | with_reducible apply le_size_setCell | refine Nat.le_trans ?_ (Below.size (by assumption))))) (by omega)).mono ?_
    unfold AddPost
    rw [HC.out]
    rintro e w3 ⟨A3, c3, rfl, hc3, hb3⟩
    go_wp2_with fail
    refine (SameWrites_any A2 A3 c2 c3 a a w3 (hc2.1.ext hb3) hc3.1 hla hla).mono ?_
    rw [decide_eq_true rfl]
    rintro e w4 ⟨rfl, hb4⟩
    clear hc2 hc3
    go_wp2_with fail
    refine (Unclaim_any A1 c1 l p w4 (H1.out.ext (by repeat' (first | with_reducible exact Below.refl _ _ | with_reducible assumption | with_reducible apply Below.drew | with_reducible apply below_drewN | with_reducible apply Below.alloc | with_reducible apply Below.setCell | (with_reducible refine Below.trans ?_ (Below.mono (by assumption) ?_)) | (simp; done) | (simp; omega) | omega | with_reducible apply le_size_alloc | with_reducible apply le_size_drewN | with_reducible apply le_size_drew | with_reducible apply le_size_setCell | refine Nat.le_trans ?_ (Below.size (by assumption))))) (by omega)).mono ?_
    unfold UncPost
    rw [HU.out]
    rintro e w5 ⟨A5, c5, rfl, hc5, hb5⟩
    go_wp2_with fail
    refine (RUnclaim_any A c l p w5 (HA.out.ext (by repeat' (first | with_reducible exact Below.refl _ _ | with_reducible assumption | with_reducible apply Below.drew | with_reducible apply below_drewN | with_reducible apply Below.alloc | with_reducible apply Below.setCell | (with_reducible refine Below.trans ?_ (Below.mono (by assumption) ?_)) | (simp; done) | (simp; omega) | omega | with_reducible apply le_size_alloc | with_reducible apply le_size_drewN | with_reducible apply le_size_drew | with_reducible apply le_size_setCell | refine Nat.le_trans ?_ (Below.size (by assumption))))) (by omega)).mono ?_
    unfold UncPost
    rw [HU.out]
    rintro e w6 ⟨A6, c6, rfl, hc6, hb6⟩
    go_wp2_with fail
    refine (SameWrites_any A5 A6 c5 c6 d d w6 (hc5.1.ext hb6) hc6.1 hld hld).mono ?_
    rw [decide_eq_true rfl]
    rintro e w7 ⟨rfl, hb7⟩
    clear hc5 hc6
    have B17 : Below w1.heap.size w1 w7 := (by repeat' (first | with_reducible exact Below.refl _ _ | with_reducible assumption | with_reducible apply Below.drew | with_reducible apply below_drewN | with_reducible apply Below.alloc | with_reducible apply Below.setCell | (with_reducible refine Below.trans ?_ (Below.mono (by assumption) ?_)) | (simp; done) | (simp; omega) | omega | with_reducible apply le_size_alloc | with_reducible apply le_size_drewN | with_reducible apply le_size_drew | with_reducible apply le_size_setCell | refine Nat.le_trans ?_ (Below.size (by assumption))))
    have B07 : Below w.heap.size w w7 := hb1.trans (B17.mono hb1.size)
    clear hb1 hb2 hb3 hb4 hb5 hb6 hb7
    go_wp2_with fail
    refine (Of_any A1 c1 l p w7 (H1.out.ext B17) (by omega)).mono ?_
    unfold OfPost
    rw [HO.out]
    rintro e w8 ⟨rfl, hb8⟩
    have B18 : Below w1.heap.size w1 w8 := B17.trans (hb8.mono B17.size)
    have B08 : Below w.heap.size w w8 := B07.trans (hb8.mono B07.size)
    go_wp2_with fail
    obtain ⟨V, hV⟩ : ∃ V, w8.alloc (.cells #[.int .i64 x.1, .int .i64 x.2.1, .int .i64 x.2.2] 28) = V := ⟨_, rfl⟩
    have BV : Below w8.heap.size w8 V := by rw [← hV]; exact (Below.refl _ _).alloc (Nat.le_refl _) _
    have kb : Blk V w8.heap.size 28 #[.int .i64 x.1, .int .i64 x.2.1, .int .i64 x.2.2] := by rw [← hV]; exact Blk.new_ rfl rfl
    rw [hV]
    clear hV
    have B0V : Below w.heap.size w V := B08.trans (BV.mono B08.size)
    have B1V : Below w1.heap.size w1 V := B18.trans (BV.mono B18.size)
    refine (ROf_any A c l p V (HA.out.ext B0V) (by omega)).mono ?_
    unfold OfPost
    rw [HO.out]
    rintro e wa ⟨rfl, hba⟩
    have kb2 := kb.below_ hba kb.lt
    obtain ⟨U, hU⟩ : ∃ U, wa.alloc (.cells #[.int .i64 x.1, .int .i64 x.2.1, .int .i64 x.2.2] 28) = U := ⟨_, rfl⟩
    have BU : Below wa.heap.size wa U := by rw [← hU]; exact (Below.refl _ _).alloc (Nat.le_refl _) _
    have BVU : Below V.heap.size V U := hba.trans (BU.mono hba.size)
    have kbU : Blk U w8.heap.size 28 #[.int .i64 x.1, .int .i64 x.2.1, .int .i64 x.2.2] := kb2.below_ BU kb2.lt
    have kbU2 : Blk U wa.heap.size 28 #[.int .i64 x.1, .int .i64 x.2.1, .int .i64 x.2.2] := by rw [← hU]; exact Blk.new_ rfl rfl
    have B0U : Below w.heap.size w U := B0V.trans (BVU.mono B0V.size)
    have B1U : Below w1.heap.size w1 U := B1V.trans (BVU.mono B1V.size)
    clear kb kb2 hba BU BVU BV B0V B1V B18 B08 B17 B07 hb8
    go_wp2_with fail
    refine (Frames_any A1 c1 l U (H1.out.ext B1U) (by omega)).mono ?_
    unfold FrPost
    rw [HFE.out]
    rintro e wb ⟨Ab, cb, rfl, hcb, hbb⟩
    go_wp2_with fail
    refine (RFrames_any A c l wb (HA.out.ext (B0U.trans (hbb.mono B0U.size))) (by omega)).mono ?_
    unfold FrPost
    rw [HF.out]
    rintro e wc ⟨Ac, cc, rfl, hcc, hbc⟩
    have BUc : Below U.heap.size U wc := hbb.trans (hbc.mono hbb.size)
    have q1 := kbU.below_ BUc kbU.lt
    have q2 := kbU2.below_ BUc kbU2.lt
    have g0 : wc.cell? ⟨w8.heap.size, 0, none⟩ = some (.int .i64 x.1) := (q1.cell_ 0).trans (by simp)
    have g1 : wc.cell? ⟨w8.heap.size, 1, none⟩ = some (.int .i64 x.2.1) := (q1.cell_ 1).trans (by simp)
    have g2 : wc.cell? ⟨w8.heap.size, 2, none⟩ = some (.int .i64 x.2.2) := (q1.cell_ 2).trans (by simp)
    have g3 : wc.cell? ⟨wa.heap.size, 0, none⟩ = some (.int .i64 x.1) := (q2.cell_ 0).trans (by simp)
    have g4 : wc.cell? ⟨wa.heap.size, 1, none⟩ = some (.int .i64 x.2.1) := (q2.cell_ 1).trans (by simp)
    have g5 : wc.cell? ⟨wa.heap.size, 2, none⟩ = some (.int .i64 x.2.2) := (q2.cell_ 2).trans (by simp)
    have Hb : Hid (Sl wc (.int .i64) Ab fs) := hcb.ext hbc
    have Hc := Lib.hid hcc
    have H1c : Hid (SW wc A1 l) := H1.out.ext (B1U.trans (BUc.mono B1U.size))
    have H0c : Hid (SW wc A l) := HA.out.ext (B0U.trans (BUc.mono B0U.size))
    have HW : Hid (Below w.heap.size w wc) := B0U.trans (BUc.mono B0U.size)
    clear q1 q2 kbU kbU2 hcb hcc BUc hbb hbc B0U B1U
    go_wp2_with fail
    refine (SameInts_any Ab Ac cb cc fs fs wc Hb.out Hc.out HFL.out HFL.out).mono ?_
    rw [decide_eq_true rfl]
    rintro e wd ⟨rfl, hbd⟩
    go_wp2_with fail
    refine (SameWrites_any A1 A c1 c l l wd (H1c.out.ext hbd) (H0c.out.ext hbd) (by omega) (by omega)).mono ?_
    rw [decide_eq_true rfl]
    rintro e we ⟨rfl, hbe⟩
    go_wp2_with fail
    refine (awake_any _).mono ?_
    rintro e wf ⟨rfl, hbf⟩
    have hbE : Below wc.heap.size wc wf := (by repeat' (first | with_reducible exact Below.refl _ _ | with_reducible assumption | with_reducible apply Below.drew | with_reducible apply below_drewN | with_reducible apply Below.alloc | with_reducible apply Below.setCell | (with_reducible refine Below.trans ?_ (Below.mono (by assumption) ?_)) | (simp; done) | (simp; omega) | omega | with_reducible apply le_size_alloc | with_reducible apply le_size_drewN | with_reducible apply le_size_drew | with_reducible apply le_size_setCell | refine Nat.le_trans ?_ (Below.size (by assumption))))
    go_wp2_with fail
    go_ret
    exact ⟨rfl, HW.out.trans (hbE.mono HW.out.size)⟩


set_option maxRecDepth 100000 in
theorem heldClaims_lifted (os : Os) (started : os.Started) (H : Type) (enc : TypeId × Value → H) :
    ReturnsInHanded {} Try.checked os 7 .any (Rows.heldClaimsSpec.pre6 enc Try.prog Try.f7 Rows.heldClaimsRow.domain false) (Rows.heldClaimsSpec.post enc Try.prog Try.f7 false true false false) := by
  refine returnsInHanded_of_change (C := Try.checked) own started (by kernel_rfl) Try.func7
    (ChangeSpec.witness6 (enc := enc) (C := Try.checked) false ⟨#[], #[.slice none 0 0, .int .i64 0, .int .i64 0], []⟩ 8 (by kernel_rfl) (by kernel_rfl) (by kernel_rfl) (by kernel_rfl)) ?_
  intro W base args ds gs before hval0 hW hcnd _
  have hval : ∀ (j : Nat) t v, Try.f7.params[j]? = some t → args[j]? = some v → Value.okWide Try.prog W .any base t v := hval0
  have hW' := hW
  obtain ⟨p, q, hA0, hV, rfl, hfz, hnd⟩ := hW
  have hA : DataW.TrodAll enc Try.prog W 0 (fun _ => true) true Try.f7.params.toList args.toList ds p := hA0
  rw [Try.params7] at hA hval
  obtain ⟨v0, vs0, d0, ds0, p0, q0, hargs, rfl, rfl, h0, r0⟩ := trodAll_cons hA
  obtain ⟨v1, vs1, d1, ds1, p1, q1, rfl, rfl, rfl, h1, r1⟩ := trodAll_cons r0
  obtain ⟨v2, vs2, d2, ds2, p2, q2, rfl, rfl, rfl, h2, r2⟩ := trodAll_cons r1
  obtain ⟨rfl, rfl, rfl⟩ := trodAll_nil r2
  obtain rfl : args = #[v0, v1, v2] := by cases args; simp_all
  obtain ⟨rfl, rfl⟩ := trodVars_none hV
  obtain ⟨A0, k0, a0, rfl, s0, l0⟩ := open_slW Try.underlying23 Try.underlying28 (by kernel_rfl) rfl rfl rfl (by kernel_rfl) (by kernel_rfl) (by kernel_rfl) Try.underlying3 Try.underlying3 Try.underlying3 (hval 0 23 v0 rfl rfl) h0
  obtain ⟨a1, rfl, rfl, rfl, w1⟩ := open_int Try.underlying3 (hval 1 3 v1 rfl rfl) h1
  obtain ⟨a2, rfl, rfl, rfl, w2⟩ := open_int Try.underlying3 (hval 2 3 v2 rfl rfl) h2
  clear hA0 hval0
  refine (heldClaims_walk A0 k0 a0 a1 a2 W s0 l0 w1 w2).mono fun e W' ⟨he, hb⟩ => ⟨_, he, ?_⟩
  exact law_post laidOut (s := Rows.heldClaimsSpec) (B := 4) rfl rfl Try.underlying4 (by decide +kernel) hW' rfl hb

theorem heldClaims_holds : Rows.HeldClaimsSaid :=
  OpenClaim.holds_of_wide 7 Try.f7 rfl rfl rfl rfl rfl rfl rfl ⟨rfl, rfl, rfl, rfl, rfl⟩ rfl rfl rfl rfl rfl (by kernel_rfl) Try.func7 (by kernel_rfl)
    (of_decide_eq_true (by kernel_rfl)) (by unfold Func.isWrapper; first | (rw [if_pos (by decide +kernel)]; kernel_rfl) | (rw [if_neg (by decide +kernel)]; exact ⟨rfl, rfl⟩))
    (fun os started H enc _ => heldClaims_lifted os started H enc)

end Go.Proofs.Ytnglompninkmbaa
