/- HeldUndo: the statement holds for every list of numbers and every two numbers. -/
import Derived.Test.YtnglompninkmbaaHeldE
import Derived.Test.YtnglompninkmbaaHeldG
import Derived.Test.YtnglompninkmbaaClose
namespace Go.Proofs.Ytnglompninkmbaa
open Go.RowKit Go.Maps
open Go.ChangeShapes Go.WideShapes Go.ChangeAt Go.Joins

theorem hit_snoc (pre : List Wr) (x : Wr) (s f : Int) : hit (pre ++ [x]) (s, f, 0) = (hit pre (s, f, 0) || (decide (x.1 = s) || decide (x.2.1 = f))) := by
  simp [hit, List.any_append]
theorem add_valid {l : List Wr} {s f : Int} (hv : Valid l) (h16 : l.length < 16) (hs : 0 ≤ s ∧ s < 256) (hf : 0 ≤ f ∧ f < 256) (hh : hit l (s, f, 0) = false) : Valid (l ++ [(s, f, 0)]) := by
  refine ⟨by simp; omega, fun x hx => ?_, ?_⟩
  · rcases List.mem_append.1 hx with h | h
    · exact hv.2.1 x h
    · simp at h
      subst h
      simp [okW, hs, hf]
  · rw [List.pairwise_append]
    refine ⟨hv.2.2, by simp, fun y hy z hz => ?_⟩
    simp at hz
    subst hz
    exact hit_apart.1 hh y hy
theorem rem_add {l : List Wr} {s f : Int} (hv : Valid (l ++ [(s, f, 0)])) : remS (l ++ [(s, f, 0)]) s = (l, (s, f, 0), 0) := by
  have hx : (l ++ [(s, f, 0)])[l.length]? = some (s, f, 0) := by simp
  have := remS_at hv hx
  rw [← cut_filter hv.2.2 hx] at this
  rw [show s = ((s, f, 0) : Wr).1 from rfl, this]
  simp

set_option maxRecDepth 100000 in
set_option maxHeartbeats 4000000 in
theorem heldUndo_walk (A : Option Addr) (c : Nat) (nums : List Int) (n m : Int) (w : World) (hs : Sl w (.int .i64) A nums) (_hw : ∀ x ∈ nums, (Lit.int .i64 x).wf = true) (hl0 : nums.length ≤ maxLen) (_hn : (Lit.int .i64 n).wf = true) (_hm : (Lit.int .i64 m).wf = true) :
    Calls Try.prog 4 #[.slice A nums.length c, .int .i64 n, .int .i64 m] w fun e w' => e = .returned (.bool true) ∧ Below w.heap.size w w' := by
  have hl : nums.length ≤ 9223372036854775807 := by unfold maxLen at hl0; exact hl0
  have HS := Lib.hid hs
  obtain ⟨l, hle⟩ : ∃ l, madeS nums = l := ⟨_, rfl⟩
  have hv := made_valid nums
  rw [hle] at hv
  have hl16 := hv.1
  have HV := Lib.hid hv; have HL := Lib.hid hle
  clear hs hv hle
  obtain ⟨s, hs⟩ : ∃ s, n % 60 = s := ⟨_, rfl⟩
  obtain ⟨f, hf⟩ : ∃ f, m % 80 = f := ⟨_, rfl⟩
  have s0 : 0 ≤ s := by omega
  have s1 : s < 60 := by omega
  have f0 : 0 ≤ f := by omega
  have f1 : f < 80 := by omega
  have HSS := Lib.hid hs; have HFF := Lib.hid hf
  clear hs hf
  obtain ⟨⟨a, z⟩, hA⟩ : ∃ R, addS l s f = R := ⟨_, rfl⟩
  have hz0 : (chkS l).1 = 0 := chkS_ok.2 HV.out
  unfold addS at hA
  rw [if_neg (by simp [hz0]), if_pos ⟨⟨s0, by omega⟩, ⟨f0, by omega⟩⟩] at hA
  obtain ⟨th, hth⟩ : ∃ b, hit l (s, f, 0) = b := ⟨_, rfl⟩
  have HADD : Hid (addS l s f = (a, z)) := by show _ = _; unfold addS; rw [if_neg (by simp [hz0]), if_pos ⟨⟨s0, by omega⟩, ⟨f0, by omega⟩⟩]; exact hA
  clear hz0
  rw [hth] at hA
  by_cases hz : z = 0
  · subst hz
    have hcase : th = false ∧ l.length < 16 ∧ a = l ++ [(s, f, 0)] := by
      cases th with
      | true => simp at hA
      | false =>
        by_cases h16 : 16 ≤ l.length
        · simp [h16] at hA
        · simp [h16] at hA
          exact ⟨rfl, by omega, hA.symm⟩
    obtain ⟨rfl, h16, rfl⟩ := hcase
    have hva := add_valid HV.out h16 ⟨s0, by omega⟩ ⟨f0, by omega⟩ hth
    have HVA := Lib.hid hva
    have HREM := Lib.hid (rem_add hva)
    have HCK := Lib.hid (chkS_zero hva)
    have hla : (l ++ [(s, f, 0)]).length ≤ 16 := hva.1
    obtain ⟨a, ha⟩ : ∃ a, l ++ [(s, f, 0)] = a := ⟨_, rfl⟩
    rw [ha] at HREM HCK hla HADD
    clear hva ha hA hth HVA
    have heq := fun W => eq_wr W (s, f, 0) (s, f, 0)
    rw [decide_eq_true rfl] at heq
    go_enter Try.func4, Try.ntmps4
    go_wp2_with fail
    refine (made_any _ _ _ _ HS.out hl).mono ?_
    rw [HL.out]
    rintro e w1 ⟨A1, c1, rfl, hc1, hb1⟩
    go_wp2_with fail
    with_reducible refine (Mod_any _ _ _ (by omega) (by omega)).mono ?_
    rw [HSS.out]
    rintro e w' ⟨rfl, rfl⟩
    go_wp2_with fail
    with_reducible refine (Mod_any _ _ _ (by omega) (by omega)).mono ?_
    rw [HFF.out]
    rintro e w' ⟨rfl, rfl⟩
    go_wp2_with fail
    refine (OwnWrites_any A1 c1 l _ hc1.1 (by omega)).mono ?_
    rintro e w2 ⟨A2, c2, rfl, hc2, hb2⟩
    go_wp2_with fail
    refine (Add_any A2 c2 l s f w2 hc2 (by omega)).mono ?_
    unfold AddPost
    rw [HADD.out]
    rintro e w3 ⟨A3, c3, rfl, hc3, hb3⟩
    go_wp2_with fail
    refine (Check_any A3 c3 a w3 hc3.1 (by omega) HCK.out).mono ?_
    rintro e w4 ⟨rfl, hb4⟩
    go_wp2_with fail
    refine (Remove_any A3 c3 a s w4 (hc3.ext hb4) (by omega)).mono ?_
    unfold RemPost
    rw [HREM.out]
    rintro e w5 ⟨A5, c5, rfl, hc5, hb5⟩
    have B15 : Below w1.heap.size w1 w5 := (by repeat' (first | with_reducible exact Below.refl _ _ | with_reducible assumption | with_reducible apply Below.drew | with_reducible apply below_drewN | with_reducible apply Below.alloc | with_reducible apply Below.setCell | (with_reducible refine Below.trans ?_ (Below.mono (by assumption) ?_)) | (simp; done) | (simp; omega) | omega | with_reducible apply le_size_alloc | with_reducible apply le_size_drewN | with_reducible apply le_size_drew | with_reducible apply le_size_setCell | refine Nat.le_trans ?_ (Below.size (by assumption))))
    go_wp2_with fail
    obtain ⟨V, hV⟩ : ∃ V, w5.alloc (.cells #[.int .i64 s, .int .i64 f, .int .i64 0] 28) = V := ⟨_, rfl⟩
    have BV : Below w5.heap.size w5 V := by rw [← hV]; exact (Below.refl _ _).alloc (Nat.le_refl _) _
    have H5 : Hid (SW V A5 l) := hc5.1.ext BV
    have H1 : Hid (SW V A1 l) := hc1.1.ext (B15.trans (BV.mono B15.size))
    rw [hV]
    clear hV
    refine (is_any A5 A1 c5 c1 l l 0 V H5.out H1.out (by omega) (by omega) (b := true) (by simp)).mono ?_
    rintro e w6 ⟨rfl, hb6⟩
    go_wp2_with fail
    refine (awake_any _).mono ?_
    rintro e w7 ⟨rfl, hb7⟩
    go_wp2_with fail
    go_ret
    exact ⟨rfl, (hb1.trans (B15.mono hb1.size)).trans (Below.mono (B := w5.heap.size) (BV.trans ((hb6.trans (hb7.mono hb6.size)).mono BV.size)) (Nat.le_trans hb1.size B15.size))⟩
  · have hcase : a = [] ∧ ((th = true ∧ z = 7) ∨ (th = false ∧ l.length = 16 ∧ z = 5)) := by
      cases th with
      | true =>
        simp at hA
        exact ⟨hA.1, .inl ⟨rfl, hA.2.symm⟩⟩
      | false =>
        by_cases h16 : 16 ≤ l.length
        · simp [h16] at hA
          exact ⟨hA.1, .inr ⟨rfl, by omega, hA.2.symm⟩⟩
        · simp [h16] at hA
          exact absurd hA.2.symm hz
    obtain ⟨rfl, hcase⟩ := hcase
    have hzb : (z != 0) = true := by simpa using hz
    have HC := Lib.hid hcase
    have HTH := Lib.hid hth
    clear hA hcase hth
    go_enter Try.func4, Try.ntmps4
    go_wp2_with fail
    refine (made_any _ _ _ _ HS.out hl).mono ?_
    rw [HL.out]
    rintro e w1 ⟨A1, c1, rfl, hc1, hb1⟩
    go_wp2_with fail
    with_reducible refine (Mod_any _ _ _ (by omega) (by omega)).mono ?_
    rw [HSS.out]
    rintro e w' ⟨rfl, rfl⟩
    go_wp2_with fail
    with_reducible refine (Mod_any _ _ _ (by omega) (by omega)).mono ?_
    rw [HFF.out]
    rintro e w' ⟨rfl, rfl⟩
    go_wp2_with fail
    refine (OwnWrites_any A1 c1 l _ hc1.1 (by omega)).mono ?_
    rintro e w2 ⟨A2, c2, rfl, hc2, hb2⟩
    go_wp2_with fail
    refine (Add_any A2 c2 l s f w2 hc2 (by omega)).mono ?_
    unfold AddPost
    rw [HADD.out]
    rintro e w3 ⟨A3, c3, rfl, hc3, hb3⟩
    have B13 : Below w1.heap.size w1 w3 := (by repeat' (first | with_reducible exact Below.refl _ _ | with_reducible assumption | with_reducible apply Below.drew | with_reducible apply below_drewN | with_reducible apply Below.alloc | with_reducible apply Below.setCell | (with_reducible refine Below.trans ?_ (Below.mono (by assumption) ?_)) | (simp; done) | (simp; omega) | omega | with_reducible apply le_size_alloc | with_reducible apply le_size_drewN | with_reducible apply le_size_drew | with_reducible apply le_size_setCell | refine Nat.le_trans ?_ (Below.size (by assumption))))
    have H1 : Hid (SW w3 A1 l) := hc1.1.ext B13
    go_wp2_with fail
    go_loopw [12, 13] (fun v i wr => ∃ k : Nat, k ≤ l.length ∧ i = .int .i64 k ∧ v = .bool (hit (l.take k) (s, f, 0)) ∧ wr = w3) (fun _ i _ => l.length - (intOf i).toNat)
    case atStart => exact ⟨0, by omega, rfl, rfl, rfl⟩
    case round =>
      obtain ⟨k, hk, rfl, rfl, rfl⟩ := hrel
      by_cases hlt : k < l.length
      · obtain ⟨b, off, x, rfl, hbl, hx, q0, q1, q2⟩ := H1.out.at_ hlt
        have i1 : (k : Int) < l.length := by omega
        have HT : Hid (hit (l.take (k + 1)) (s, f, 0) = (hit (l.take k) (s, f, 0) || (decide (x.1 = s) || decide (x.2.1 = f)))) := by
          show _ = _
          obtain ⟨hk', rfl⟩ := List.getElem?_eq_some_iff.1 hx
          rw [List.take_succ_eq_append_getElem hk', hit_snoc]
        clear hx
        obtain ⟨t, ht⟩ : ∃ t, hit (l.take k) (s, f, 0) = t := ⟨_, rfl⟩
        rw [ht] at HT ⊢
        clear ht
        cases t with
        | true =>
          go_wp2_with fail
          go_roundw
          case rel => exact ⟨k + 1, by omega, by go_num, by rw [HT.out]; simp, by first | rfl | trivial⟩
          case measure => simp [intOf]; omega
        | false =>
          by_cases e1 : x.1 = s
          · have e1' : (x.1 == s) = true := by simpa using e1
            go_wp2_with fail
            go_roundw
            case rel => exact ⟨k + 1, by omega, by go_num, by rw [HT.out]; simp [e1], by first | rfl | trivial⟩
            case measure => simp [intOf]; omega
          · have e1' : (x.1 == s) = false := by simpa using e1
            by_cases e2 : x.2.1 = f
            · have e2' : (x.2.1 == f) = true := by simpa using e2
              go_wp2_with fail
              go_roundw
              case rel => exact ⟨k + 1, by omega, by go_num, by rw [HT.out]; simp [e1, e2], by first | rfl | trivial⟩
              case measure => simp [intOf]; omega
            · have e2' : (x.2.1 == f) = false := by simpa using e2
              go_wp2_with fail
              go_roundw
              case rel => exact ⟨k + 1, by omega, by go_num, by rw [HT.out]; simp [e1, e2], by first | rfl | trivial⟩
              case measure => simp [intOf]; omega
      · have hkl : k = l.length := by omega
        rw [List.take_of_length_le (show l.length ≤ k by omega), HTH.out]
        rcases HC.out with ⟨rfl, rfl⟩ | ⟨rfl, h16, rfl⟩
        · go_wp2_with fail
          refine (awake_any _).mono ?_
          rintro e w4 ⟨rfl, hb4⟩
          go_wp2_with fail
          go_ret
          exact ⟨rfl, (by repeat' (first | with_reducible exact Below.refl _ _ | with_reducible assumption | with_reducible apply Below.drew | with_reducible apply below_drewN | with_reducible apply Below.alloc | with_reducible apply Below.setCell | (with_reducible refine Below.trans ?_ (Below.mono (by assumption) ?_)) | (simp; done) | (simp; omega) | omega | with_reducible apply le_size_alloc | with_reducible apply le_size_drewN | with_reducible apply le_size_drew | with_reducible apply le_size_setCell | refine Nat.le_trans ?_ (Below.size (by assumption))))⟩
        · have h16' : (l.length : Int) = 16 := by omega
          go_wp2_with fail
          refine (awake_any _).mono ?_
          rintro e w4 ⟨rfl, hb4⟩
          go_wp2_with fail
          go_ret
          exact ⟨rfl, (by repeat' (first | with_reducible exact Below.refl _ _ | with_reducible assumption | with_reducible apply Below.drew | with_reducible apply below_drewN | with_reducible apply Below.alloc | with_reducible apply Below.setCell | (with_reducible refine Below.trans ?_ (Below.mono (by assumption) ?_)) | (simp; done) | (simp; omega) | omega | with_reducible apply le_size_alloc | with_reducible apply le_size_drewN | with_reducible apply le_size_drew | with_reducible apply le_size_setCell | refine Nat.le_trans ?_ (Below.size (by assumption))))⟩


set_option maxRecDepth 100000 in
theorem heldUndo_lifted (os : Os) (started : os.Started) (H : Type) (enc : TypeId × Value → H) :
    ReturnsInHanded {} Try.checked os 4 .any (Rows.heldUndoSpec.pre6 enc Try.prog Try.f4 Rows.heldUndoRow.domain false) (Rows.heldUndoSpec.post enc Try.prog Try.f4 false true false false) := by
  refine returnsInHanded_of_change (C := Try.checked) own started (by kernel_rfl) Try.func4
    (ChangeSpec.witness6 (enc := enc) (C := Try.checked) false ⟨#[], #[.slice none 0 0, .int .i64 0, .int .i64 0], []⟩ 8 (by kernel_rfl) (by kernel_rfl) (by kernel_rfl) (by kernel_rfl)) ?_
  intro W base args ds gs before hval0 hW hcnd _
  have hval : ∀ (j : Nat) t v, Try.f4.params[j]? = some t → args[j]? = some v → Value.okWide Try.prog W .any base t v := hval0
  have hW' := hW
  obtain ⟨p, q, hA0, hV, rfl, hfz, hnd⟩ := hW
  have hA : DataW.TrodAll enc Try.prog W 0 (fun _ => true) true Try.f4.params.toList args.toList ds p := hA0
  rw [Try.params4] at hA hval
  obtain ⟨v0, vs0, d0, ds0, p0, q0, hargs, rfl, rfl, h0, r0⟩ := trodAll_cons hA
  obtain ⟨v1, vs1, d1, ds1, p1, q1, rfl, rfl, rfl, h1, r1⟩ := trodAll_cons r0
  obtain ⟨v2, vs2, d2, ds2, p2, q2, rfl, rfl, rfl, h2, r2⟩ := trodAll_cons r1
  obtain ⟨rfl, rfl, rfl⟩ := trodAll_nil r2
  obtain rfl : args = #[v0, v1, v2] := by cases args; simp_all
  obtain ⟨rfl, rfl⟩ := trodVars_none hV
  obtain ⟨A0, k0, a0, rfl, s0, w0, l0⟩ := open_slI Try.underlying22 Try.underlying3 (by kernel_rfl) (hval 0 22 v0 rfl rfl) h0
  obtain ⟨a1, rfl, rfl, rfl, w1⟩ := open_int Try.underlying3 (hval 1 3 v1 rfl rfl) h1
  obtain ⟨a2, rfl, rfl, rfl, w2⟩ := open_int Try.underlying3 (hval 2 3 v2 rfl rfl) h2
  clear hA0 hval0
  refine (heldUndo_walk A0 k0 a0 a1 a2 W s0 w0 l0 w1 w2).mono fun e W' ⟨he, hb⟩ => ⟨_, he, ?_⟩
  exact law_post laidOut (s := Rows.heldUndoSpec) (B := 4) rfl rfl Try.underlying4 (by decide +kernel) hW' rfl hb

theorem heldUndo_holds : Rows.HeldUndoSaid :=
  OpenClaim.holds_of_wide 4 Try.f4 rfl rfl rfl rfl rfl rfl rfl ⟨rfl, rfl, rfl, rfl, rfl⟩ rfl rfl rfl rfl rfl (by kernel_rfl) Try.func4 (by kernel_rfl)
    (of_decide_eq_true (by kernel_rfl)) (by unfold Func.isWrapper; first | (rw [if_pos (by decide +kernel)]; kernel_rfl) | (rw [if_neg (by decide +kernel)]; exact ⟨rfl, rfl⟩))
    (fun os started H enc _ => heldUndo_lifted os started H enc)

end Go.Proofs.Ytnglompninkmbaa
