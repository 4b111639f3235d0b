/- BalanceEnds: the statement holds for every list of numbers. Written by gen_bends.py. -/
import Derived.Test.YtifimhfdapkpoaaBalT
import Derived.Test.YtifimhfdapkpoaaLruM
import Derived.Test.YtifimhfdapkpoaaClose
namespace Go.Proofs.Ytifimhfdapkpoaa
open Go.RowKit Go.Maps
open Go.ChangeShapes Go.WideShapes Go.ChangeAt Go.Joins

theorem tgt_pos {n : Int} (h0 : 0 < n) : 0 < tgt n := by
  obtain ⟨a, b⟩ := rat_bd n
  unfold tgt
  generalize rat n = r at *
  have : 1 ≤ (n + r) / (r + 1) := Int.le_ediv_of_mul_le (by omega) (by omega)
  omega
theorem which_end {us vs : List Int} {ts : List Bool} (hc : lruChk us vs ts = 0) (h : stepsS us vs ts = 0) : (whichS us vs ts = 3 ∧ 0 < us.length + vs.length) ∨ (whichS us vs ts = 0 ∧ us.length + vs.length = 0) := by
  rcases which_cases us vs ts with ⟨hw, _⟩ | ⟨hw, _⟩ | ⟨hw, hy⟩ | ⟨hw, hy, hn⟩
  · have := steps_on hc (.inl hw); omega
  · have := steps_on hc (.inr hw); omega
  · exact .inl ⟨hw, by omega⟩
  · refine .inr ⟨hw, ?_⟩
    by_cases hx : 0 < us.length
    · exfalso
      apply hn
      refine ⟨hx, ?_⟩
      rw [hy]
      exact tgt_pos (by omega)
    · omega
theorem steps_pos {us vs : List Int} {ts : List Bool} (h : stepsS us vs ts ≠ 0) : whichS us vs ts = 1 ∨ whichS us vs ts = 2 := by
  by_cases hw : whichS us vs ts = 1 ∨ whichS us vs ts = 2
  · exact hw
  · exact absurd (steps_end hw) h
theorem Md.wf' {k : Nat} {xs ys : List Int} {rs : List Bool} (h : Md k xs ys rs) : (∀ x ∈ xs, (Lit.int .i64 x).wf = true) ∧ (∀ x ∈ ys, (Lit.int .i64 x).wf = true) := by
  have hh : ∀ x ∈ xs ++ ys, (Lit.int .i64 x).wf = true := fun x hx => by
    obtain ⟨j, _, rfl⟩ := h.from_ x hx
    have := fr_bd j
    exact WalkArith.wf_i64 (by omega)
  exact ⟨fun x hx => hh x (by simp [hx]), fun x hx => hh x (by simp [hx])⟩

set_option maxRecDepth 100000 in
set_option maxHeartbeats 4000000 in
theorem balanceEnds_walk (A : Option Addr) (c : Nat) (nums : List Int) (w : World) (hs : Sl w (.int .i64) A nums) (_hw : ∀ x ∈ nums, (Lit.int .i64 x).wf = true) (hl0 : nums.length ≤ maxLen) :
    Calls Try.prog 6 #[.slice A nums.length c] w fun e w' => e = .returned (.bool true) ∧ Below w.heap.size w w' := by
  have hl : nums.length ≤ 9223372036854775807 := by unfold maxLen at hl0; exact hl0
  have HS := Lib.hid hs
  clear hs
  go_enter Try.func6, Try.ntmps6
  go_wp2_with fail
  refine (made_any _ _ _ _ HS.out hl).mono ?_
  rintro e w1 ⟨X1, x1, X2, x2, X3, x3, xs, ys, rs, rfl, o1, hmd, h1⟩
  have hchk := hmd.chk
  have hlen := hmd.len
  have hsm := hmd.size
  obtain ⟨hwx, hwy⟩ := hmd.wf'
  have m1 := o1.mem (by omega) (by omega) (by omega) hwx hwy
  have hmu := mu_le (valid_of_chk hchk)
  have hle := steps_le xs ys rs
  obtain ⟨n, hn⟩ : ∃ n, stepsS xs ys rs = n := ⟨_, rfl⟩
  rw [hn] at hle
  obtain ⟨sz, hsz⟩ : ∃ sz, xs.length + ys.length = sz := ⟨_, rfl⟩
  have hn200 : n ≤ 48 := by omega
  have hlx : xs.length ≤ 16 := by omega
  have hly : ys.length ≤ 16 := by omega
  have hsv : stepsV xs ys rs = (n : Int) := by unfold stepsV; rw [if_neg (by simpa using hchk), hn]
  have hs16 : sz ≤ 16 := by omega
  have hsI : (xs.length : Int) + ys.length = (sz : Int) := by omega
  have HN0 : Hid (0 + stepsS xs ys rs = n) := by show _ = _; omega
  have HSZ0 := Lib.hid hsz; have HSV := Lib.hid hsv; have HCK0 := Lib.hid hchk; have HM1 := Lib.hid m1
  clear hmd hchk hwx hwy m1 hlen o1 hmu hle hn hsz hsv hsm
  have hb1 : Below w1.heap.size w1 (w1.alloc (.cells #[.slice X1 xs.length x1, .slice X2 ys.length x2, .slice X3 rs.length x3] 33)) := (by repeat' (first | with_reducible exact Below.refl _ _ | with_reducible assumption | with_reducible apply Below.drew | with_reducible apply below_drewN | with_reducible apply Below.alloc | with_reducible apply Below.setCell | (with_reducible refine Below.trans ?_ (Below.mono (by assumption) ?_)) | (simp; done) | (simp; omega) | omega | with_reducible apply le_size_alloc | with_reducible apply le_size_drewN | with_reducible apply le_size_drew | with_reducible apply le_size_setCell | refine Nat.le_trans ?_ (Below.size (by assumption))))
  go_wp2_with fail
  refine (Steps_S _ _ _ _ _ _ _ _ _ _ (HM1.out.ext hb1)).mono ?_
  rw [HSV.out, HCK0.out]
  rintro e w2 ⟨rfl, h2⟩
  have b2 : Blk w2 w1.heap.size 33 #[.slice X1 xs.length x1, .slice X2 ys.length x2, .slice X3 rs.length x3] := (Blk.new_ (w := w1) rfl rfl).below_ h2 (by simp)
  have B2 := Lib.hid b2; have M2 := Lib.hid ((HM1.out.ext hb1).ext h2)
  have hz1 : w.heap.size ≤ w1.heap.size := h1.size
  have hbw2 : Below w.heap.size w w2 := (by repeat' (first | with_reducible exact Below.refl _ _ | with_reducible assumption | with_reducible apply Below.drew | with_reducible apply below_drewN | with_reducible apply Below.alloc | with_reducible apply Below.setCell | (with_reducible refine Below.trans ?_ (Below.mono (by assumption) ?_)) | (simp; done) | (simp; omega) | omega | with_reducible apply le_size_alloc | with_reducible apply le_size_drewN | with_reducible apply le_size_drew | with_reducible apply le_size_setCell | refine Nat.le_trans ?_ (Below.size (by assumption))))
  have HBW2 := Lib.hid hbw2
  have d1 : decide ((n : Int) < 0) = false := by simp
  have d2 : decide ((200 : Int) < n) = false := by simp; omega
  clear b2 hbw2 hb1
  go_wp2_with fail
  clear hsI d1 d2
  go_loopw [7] (fun v wr => ∃ k : Nat, k ≤ n ∧ v = .int .i64 k ∧ ∃ (A1 : Option Addr) (c1 : Nat) (A2 : Option Addr) (c2 : Nat) (A3 : Option Addr) (c3 : Nat) (us vs : List Int) (ts : List Bool),
      Blk wr w1.heap.size 33 #[.slice A1 us.length c1, .slice A2 vs.length c2, .slice A3 ts.length c3] ∧ InMem wr A1 A2 A3 us vs ts ∧ Hid (lruChk us vs ts = 0) ∧ Hid (k + stepsS us vs ts = n) ∧ Hid (us.length + vs.length = sz) ∧ Below w.heap.size w wr)
    (fun v _ => n - (intOf v).toNat)
  case atStart => exact ⟨0, by omega, rfl, X1, x1, X2, x2, X3, x3, xs, ys, rs, B2.out, M2.out, HCK0, HN0, HSZ0, HBW2.out⟩
  case round =>
    obtain ⟨k, hk, rfl, A1, c1, A2, c2, A3, c3, us, vs, ts, bk, m, HCK, HN, HSZ, hbw⟩ := hrel
    have k0 := (bk.cell_ 0).trans (by simp : _ = some (.slice A1 us.length c1))
    have k1 := (bk.cell_ 1).trans (by simp : _ = some (.slice A2 vs.length c2))
    have k2 := (bk.cell_ 2).trans (by simp : _ = some (.slice A3 ts.length c3))
    have hzr : w.heap.size ≤ wr.heap.size := hbw.size
    have hz1r : w1.heap.size < wr.heap.size := bk.lt
    have BK := Lib.hid bk; have M := Lib.hid m
    clear bk m
    by_cases hkn : k < n
    · rcases steps_pos (us := us) (vs := vs) (ts := ts) (by have := HN.out; omega) with hwh | hwh
      · have hnx := next_dem HCK.out hwh
        have hon := steps_on HCK.out (.inl hwh)
        have nok := next_ok HCK.out (.inl hwh)
        obtain ⟨⟨us', vs', ts', z'⟩, hR⟩ : ∃ R : LR, nextL us vs ts = R := ⟨_, rfl⟩
        rw [hR] at hon nok
        have hz' : z' = 0 := nok.e
        subst hz'
        have HSS : Hid (demS us vs ts = ⟨us', vs', ts', 0⟩) := hnx.2.1.trans hR
        have HC2 : Hid (lruChk us' vs' ts' = 0) := nok.chk
        have HN2 : Hid ((k + 1) + stepsS us' vs' ts' = n) := by
          show _ = _
          have h1 := HN.out
          have h2 : stepsS us vs ts = 1 + stepsS us' vs' ts' := hon
          omega
        have hsz2 : us'.length + vs'.length = us.length + vs.length := nok.size
        have HSZ2 : Hid (us'.length + vs'.length = sz) := by show _ = _; have := HSZ.out; omega
        have hne : ((us'.length : Int) + vs'.length != (sz : Int)) = false := by have := HSZ2.out; simp; omega
        have lz1 : us'.length ≤ 100 := by have := HSZ2.out; omega
        have lz2 : vs'.length ≤ 100 := by have := HSZ2.out; omega
        have HW1 : Hid (whichV us vs ts = 1) := by show _ = _; unfold whichV; rw [if_neg (by simpa using HCK.out), hwh]
        clear hnx hon nok hR hwh hsz2
        go_wp2_with fail
        refine (Which_S _ _ _ _ _ _ _ _ _ _ M.out).mono ?_
        rw [HW1.out, HCK.out]
        rintro e w4 ⟨rfl, h4⟩
        have b4 := BK.out.below_ h4 BK.out.lt
        have hz4 : wr.heap.size ≤ w4.heap.size := h4.size
        have j0 := (b4.cell_ 0).trans (by simp : _ = some (.slice A1 us.length c1))
        have j1 := (b4.cell_ 1).trans (by simp : _ = some (.slice A2 vs.length c2))
        have j2 := (b4.cell_ 2).trans (by simp : _ = some (.slice A3 ts.length c3))
        have B4 := Lib.hid b4; have M4 := Lib.hid (M.out.ext h4); have H4 := Lib.hid h4
        clear k0 k1 k2 b4 h4
        go_wp2_with fail
        refine (Demote_S _ _ _ _ _ _ _ _ _ _ M4.out).mono ?_
        unfold LPost3
        rw [HSS.out]
        rintro e w5 ⟨D1, d1, D2, d2, D3, d3, rfl, m5, t5, h5⟩
        dsimp only at m5 ⊢
        have hz5 : w4.heap.size ≤ w5.heap.size := h5.size
        have b5 := B4.out.below_ h5 B4.out.lt
        have i0 := (b5.cell_ 0).trans (by simp : _ = some (.slice A1 us.length c1))
        have i1 := (b5.cell_ 1).trans (by simp : _ = some (.slice A2 vs.length c2))
        have i2 := (b5.cell_ 2).trans (by simp : _ = some (.slice A3 ts.length c3))
        have i3 := b5.frozen_ 0; have i4 := b5.frozen_ 1; have i5 := b5.frozen_ 2
        have B5 := Lib.hid b5; have M5 := Lib.hid m5; have T5 := Lib.hid t5; have H5 := Lib.hid h5
        clear j0 j1 j2 b5 m5 t5 h5
        go_wp2
        go_roundw
        case rel =>
          refine ⟨k + 1, by omega, by go_num, D1, d1, D2, d2, D3, d3, us', vs', ts', ?_, ((M5.out.far_ T5.out (by omega) _ _).far_ T5.out (by omega) _ _).far_ T5.out (by omega) _ _, HC2, HN2, HSZ2, ?_⟩
          · have := ((B5.out.set_ 0 (.slice D1 us'.length d1)).set_ 1 (.slice D2 vs'.length d2)).set_ 2 (.slice D3 ts'.length d3)
            simpa using this
          · have hb6 : Below w.heap.size w w5 := (hbw.trans (H4.out.mono (by omega))).trans (H5.out.mono (by omega))
            exact ((hb6.setCell (by show _ ≤ w1.heap.size; omega) _).setCell (by show _ ≤ w1.heap.size; omega) _).setCell (by show _ ≤ w1.heap.size; omega) _
        case measure => simp [intOf]; omega
      · have hnx := next_pro HCK.out hwh
        have hon := steps_on HCK.out (.inr hwh)
        have nok := next_ok HCK.out (.inr hwh)
        obtain ⟨⟨us', vs', ts', z'⟩, hR⟩ : ∃ R : LR, nextL us vs ts = R := ⟨_, rfl⟩
        rw [hR] at hon nok
        have hz' : z' = 0 := nok.e
        subst hz'
        have HSS : Hid (proS us vs ts = ⟨us', vs', ts', 0⟩) := hnx.2.1.trans hR
        have HC2 : Hid (lruChk us' vs' ts' = 0) := nok.chk
        have HN2 : Hid ((k + 1) + stepsS us' vs' ts' = n) := by
          show _ = _
          have h1 := HN.out
          have h2 : stepsS us vs ts = 1 + stepsS us' vs' ts' := hon
          omega
        have hsz2 : us'.length + vs'.length = us.length + vs.length := nok.size
        have HSZ2 : Hid (us'.length + vs'.length = sz) := by show _ = _; have := HSZ.out; omega
        have hne : ((us'.length : Int) + vs'.length != (sz : Int)) = false := by have := HSZ2.out; simp; omega
        have lz1 : us'.length ≤ 100 := by have := HSZ2.out; omega
        have lz2 : vs'.length ≤ 100 := by have := HSZ2.out; omega
        have HW1 : Hid (whichV us vs ts = 2) := by show _ = _; unfold whichV; rw [if_neg (by simpa using HCK.out), hwh]
        clear hnx hon nok hR hwh hsz2
        go_wp2_with fail
        refine (Which_S _ _ _ _ _ _ _ _ _ _ M.out).mono ?_
        rw [HW1.out, HCK.out]
        rintro e w4 ⟨rfl, h4⟩
        have b4 := BK.out.below_ h4 BK.out.lt
        have hz4 : wr.heap.size ≤ w4.heap.size := h4.size
        have j0 := (b4.cell_ 0).trans (by simp : _ = some (.slice A1 us.length c1))
        have j1 := (b4.cell_ 1).trans (by simp : _ = some (.slice A2 vs.length c2))
        have j2 := (b4.cell_ 2).trans (by simp : _ = some (.slice A3 ts.length c3))
        have B4 := Lib.hid b4; have M4 := Lib.hid (M.out.ext h4); have H4 := Lib.hid h4
        clear k0 k1 k2 b4 h4
        go_wp2_with fail
        refine (Promote_S _ _ _ _ _ _ _ _ _ _ M4.out).mono ?_
        unfold LPost3
        rw [HSS.out]
        rintro e w5 ⟨D1, d1, D2, d2, D3, d3, rfl, m5, t5, h5⟩
        dsimp only at m5 ⊢
        have hz5 : w4.heap.size ≤ w5.heap.size := h5.size
        have b5 := B4.out.below_ h5 B4.out.lt
        have i0 := (b5.cell_ 0).trans (by simp : _ = some (.slice A1 us.length c1))
        have i1 := (b5.cell_ 1).trans (by simp : _ = some (.slice A2 vs.length c2))
        have i2 := (b5.cell_ 2).trans (by simp : _ = some (.slice A3 ts.length c3))
        have i3 := b5.frozen_ 0; have i4 := b5.frozen_ 1; have i5 := b5.frozen_ 2
        have B5 := Lib.hid b5; have M5 := Lib.hid m5; have T5 := Lib.hid t5; have H5 := Lib.hid h5
        clear j0 j1 j2 b5 m5 t5 h5
        go_wp2
        go_roundw
        case rel =>
          refine ⟨k + 1, by omega, by go_num, D1, d1, D2, d2, D3, d3, us', vs', ts', ?_, ((M5.out.far_ T5.out (by omega) _ _).far_ T5.out (by omega) _ _).far_ T5.out (by omega) _ _, HC2, HN2, HSZ2, ?_⟩
          · have := ((B5.out.set_ 0 (.slice D1 us'.length d1)).set_ 1 (.slice D2 vs'.length d2)).set_ 2 (.slice D3 ts'.length d3)
            simpa using this
          · have hb6 : Below w.heap.size w w5 := (hbw.trans (H4.out.mono (by omega))).trans (H5.out.mono (by omega))
            exact ((hb6.setCell (by show _ ≤ w1.heap.size; omega) _).setCell (by show _ ≤ w1.heap.size; omega) _).setCell (by show _ ≤ w1.heap.size; omega) _
        case measure => simp [intOf]; omega
    · have hst : stepsS us vs ts = 0 := by have := HN.out; omega
      have hlu : us.length ≤ 100 := by have := HSZ.out; omega
      have hlv : vs.length ≤ 100 := by have := HSZ.out; omega
      rcases which_end HCK.out hst with ⟨hwh, hp⟩ | ⟨hwh, hp⟩
      · have hne : ((sz : Int) == 0) = false := by have := HSZ.out; simp; omega
        have HSV2 : Hid (stepsV us vs ts = 0) := by show _ = _; unfold stepsV; rw [if_neg (by simpa using HCK.out), hst]; rfl
        have HWH := Lib.hid hwh
        clear hwh hp hst
        go_wp2_with fail
        refine (Steps_S _ _ _ _ _ _ _ _ _ _ M.out).mono ?_
        rw [HSV2.out, HCK.out]
        rintro e w4 ⟨rfl, h4⟩
        have b4 := BK.out.below_ h4 BK.out.lt
        have j0 := (b4.cell_ 0).trans (by simp : _ = some (.slice A1 us.length c1))
        have j1 := (b4.cell_ 1).trans (by simp : _ = some (.slice A2 vs.length c2))
        have j2 := (b4.cell_ 2).trans (by simp : _ = some (.slice A3 ts.length c3))
        clear k0 k1 k2 b4
        go_wp2_with fail
        refine (lwhich_yes _ _ _ _ _ _ _ _ _ 3 _ (M.out.ext h4) HCK.out HWH.out).mono ?_
        rintro e w5 ⟨rfl, h5⟩
        go_wp2_with fail
        refine (awake_any _).mono ?_
        rintro e w6 ⟨rfl, h6⟩
        go_wp2
        go_ret
        exact ⟨by first | rfl | simp, (by repeat' (first | with_reducible exact Below.refl _ _ | with_reducible assumption | with_reducible apply Below.drew | with_reducible apply below_drewN | with_reducible apply Below.alloc | with_reducible apply Below.setCell | (with_reducible refine Below.trans ?_ (Below.mono (by assumption) ?_)) | (simp; done) | (simp; omega) | omega | with_reducible apply le_size_alloc | with_reducible apply le_size_drewN | with_reducible apply le_size_drew | with_reducible apply le_size_setCell | refine Nat.le_trans ?_ (Below.size (by assumption))))⟩
      · obtain rfl : sz = 0 := by have := HSZ.out; omega
        have hn0 : n = 0 := by
          have h1 := HN0.out
          have h2 := HSZ0.out
          have h3 : whichS xs ys rs = 0 := by
            rcases which_cases xs ys rs with ⟨_, h, _⟩ | ⟨_, h, _⟩ | ⟨_, h⟩ | ⟨h, _⟩
            · omega
            · omega
            · omega
            · exact h
          have := steps_end (xs := xs) (ys := ys) (rs := rs) (by rw [h3]; simp)
          omega
        subst hn0
        have HWH := Lib.hid hwh
        clear hwh hp hst
        obtain rfl : k = 0 := by omega
        go_wp2_with fail
        refine (lwhich_yes _ _ _ _ _ _ _ _ _ 0 _ M.out HCK.out HWH.out).mono ?_
        rintro e w5 ⟨rfl, h5⟩
        go_wp2_with fail
        refine (awake_any _).mono ?_
        rintro e w6 ⟨rfl, h6⟩
        go_wp2
        go_ret
        exact ⟨by first | rfl | simp, (by repeat' (first | with_reducible exact Below.refl _ _ | with_reducible assumption | with_reducible apply Below.drew | with_reducible apply below_drewN | with_reducible apply Below.alloc | with_reducible apply Below.setCell | (with_reducible refine Below.trans ?_ (Below.mono (by assumption) ?_)) | (simp; done) | (simp; omega) | omega | with_reducible apply le_size_alloc | with_reducible apply le_size_drewN | with_reducible apply le_size_drew | with_reducible apply le_size_setCell | refine Nat.le_trans ?_ (Below.size (by assumption))))⟩

set_option maxRecDepth 100000 in
theorem balanceEnds_lifted (os : Os) (started : os.Started) (H : Type) (enc : TypeId × Value → H) :
    ReturnsInHanded {} Try.checked os 6 .any (Rows.balanceEndsSpec.pre6 enc Try.prog Try.f6 Rows.balanceEndsRow.domain false) (Rows.balanceEndsSpec.post enc Try.prog Try.f6 false true false false) := by
  refine returnsInHanded_of_change (C := Try.checked) own started (by kernel_rfl) Try.func6
    (ChangeSpec.witness6 (enc := enc) (C := Try.checked) false ⟨#[], #[.slice none 0 0], []⟩ 8 (by kernel_rfl) (by kernel_rfl) (by kernel_rfl) (by kernel_rfl)) ?_
  intro W base args ds gs before hval0 hW hcnd _
  have hval : ∀ (j : Nat) t v, Try.f6.params[j]? = some t → args[j]? = some v → Value.okWide Try.prog W .any base t v := hval0
  have hW' := hW
  obtain ⟨p, q, hA0, hV, rfl, hfz, hnd⟩ := hW
  have hA : DataW.TrodAll enc Try.prog W 0 (fun _ => true) true Try.f6.params.toList args.toList ds p := hA0
  rw [Try.params6] at hA hval
  obtain ⟨v0, vs0, d0, ds0, p0, q0, hargs, rfl, rfl, h0, r0⟩ := trodAll_cons hA
  obtain ⟨rfl, rfl, rfl⟩ := trodAll_nil r0
  obtain rfl : args = #[v0] := by cases args; simp_all
  obtain ⟨rfl, rfl⟩ := trodVars_none hV
  obtain ⟨A0, k0, a0, rfl, s0, w0, l0⟩ := open_slI Try.underlying30 Try.underlying3 (by kernel_rfl) (hval 0 30 v0 rfl rfl) h0
  clear hA0 hval0
  refine (balanceEnds_walk A0 k0 a0 W s0 w0 l0).mono fun e W' ⟨he, hb⟩ => ⟨_, he, ?_⟩
  exact law_post laidOut (s := Rows.balanceEndsSpec) (B := 4) rfl rfl Try.underlying4 (by decide +kernel) hW' rfl hb

theorem balanceEnds_holds : Rows.BalanceEndsSaid :=
  OpenClaim.holds_of_wide 6 Try.f6 rfl rfl rfl rfl rfl rfl rfl ⟨rfl, rfl, rfl, rfl, rfl⟩ rfl rfl rfl rfl rfl (by kernel_rfl) Try.func6 (by kernel_rfl)
    (of_decide_eq_true (by kernel_rfl)) (by unfold Func.isWrapper; first | (rw [if_pos (by decide +kernel)]; kernel_rfl) | (rw [if_neg (by decide +kernel)]; exact ⟨rfl, rfl⟩))
    (fun os started H enc _ => balanceEnds_lifted os started H enc)

end Go.Proofs.Ytifimhfdapkpoaa
