/- LruSteps: the statement holds for every two lists of numbers. Written by gen_steps.py. -/
import Derived.Test.YtjilfijpepbfeaaLruV
import Derived.Test.YtjilfijpepbfeaaLLUndo
namespace Go.Proofs.Ytjilfijpepbfeaa
open Go.RowKit Go.Maps
open Go.ChangeShapes Go.WideShapes Go.ChangeAt Go.Joins

theorem wo_size {us vs : List Int} {ts : List Bool} {f : Int} (hv : Valid us vs ts) (h : fWhere us vs f ≠ 0) : (wo f us).length + (wo f vs).length + 1 = us.length + vs.length := by
  have hm := fWhere_mem h
  have e := wo_erase (f := f) hv.nodup
  have := congrArg List.length e
  rw [wo_append, List.length_append, List.length_erase_of_mem hm, List.length_append] at this
  have : 0 < us.length + vs.length := by
    have := List.length_pos_of_mem hm
    simpa using this
  omega
theorem dem_size {us vs : List Int} (h : 0 < us.length) : (dX us vs).length + (dY us vs).length = us.length + vs.length := by
  have l1 : (dX us vs).length = us.length - 1 := by unfold dX; rw [List.length_eraseIdx_of_lt (by omega)]
  have l2 : (dY us vs).length = vs.length + 1 := rfl
  omega
theorem pro_size {us vs : List Int} (h : 0 < vs.length) : (pX us vs).length + (pY us vs).length = us.length + vs.length := by
  have l1 : (pY us vs).length = vs.length - 1 := by unfold pY; rw [List.length_eraseIdx_of_lt (by omega)]
  have l2 : (pX us vs).length = us.length + 1 := rfl
  omega

set_option maxRecDepth 100000 in
set_option maxHeartbeats 16000000 in
theorem lruSteps_walk (A : Option Addr) (c : Nat) (nums : List Int) (A' : Option Addr) (c' : Nat) (steps : List Int) (w : World) (hs : Sl w (.int .i64) A nums) (_hw : ∀ x ∈ nums, (Lit.int .i64 x).wf = true) (hl0 : nums.length ≤ maxLen)
    (hs' : Sl w (.int .i64) A' steps) (_hw' : ∀ x ∈ steps, (Lit.int .i64 x).wf = true) (hl0' : steps.length ≤ maxLen) :
    Calls Try.prog 8 #[.slice A nums.length c, .slice A' steps.length c'] w fun e w' => e = .returned (.bool true) ∧ Below w.heap.size w w' := by
  have hl : nums.length ≤ 9223372036854775807 := by unfold maxLen at hl0; exact hl0
  have hl' : steps.length ≤ 9223372036854775807 := by unfold maxLen at hl0'; exact hl0'
  have HS := Lib.hid hs; have HS' := Lib.hid hs'
  clear hs hs' _hw _hw' hl0 hl0'
  go_enter Try.func8, Try.ntmps8
  go_wp2_with fail
  refine (made_any _ _ _ _ HS.out hl).mono ?_
  rintro e w1 ⟨X1, x1, X2, x2, X3, x3, xs, ys, rs, rfl, o1, hmd, h1⟩
  have hchk := hmd.chk
  have hlen := hmd.len
  have hsm := hmd.size
  obtain ⟨hwx, hwy⟩ := hmd.wf
  have m1 := o1.mem (by omega) (by omega) (by omega) hwx hwy
  have hb1 : Below w1.heap.size w1 (w1.alloc (.cells #[.slice X1 xs.length x1, .slice X2 ys.length x2, .slice X3 rs.length x3] 25)) := (by repeat' (first | with_reducible exact Below.refl _ _ | with_reducible assumption | with_reducible apply Below.drew | with_reducible apply below_drewN | with_reducible apply Below.alloc | with_reducible apply Below.setCell | (with_reducible refine Below.trans ?_ (Below.mono (by assumption) ?_)) | (simp; done) | (simp; omega) | omega | with_reducible apply le_size_alloc | with_reducible apply le_size_drewN | with_reducible apply le_size_drew | with_reducible apply le_size_setCell | refine Nat.le_trans ?_ (Below.size (by assumption))))
  have M1 := Lib.hid (m1.ext hb1); have HCK0 := Lib.hid hchk; have HLT0 := Lib.hid hlen; have H1 := Lib.hid h1
  have hz1 : w.heap.size ≤ w1.heap.size := h1.size
  clear hmd hchk hlen hsm hwx hwy m1 o1 hb1
  go_wp2_with fail
  go_loopw [6] (fun v wr => ∃ k : Nat, k ≤ steps.length ∧ k ≤ 30 ∧ v = .int .i64 k ∧ ∃ (A1 : Option Addr) (c1 : Nat) (A2 : Option Addr) (c2 : Nat) (A3 : Option Addr) (c3 : Nat) (us vs : List Int) (ts : List Bool),
      Blk wr w1.heap.size 25 #[.slice A1 us.length c1, .slice A2 vs.length c2, .slice A3 ts.length c3] ∧ InMem wr A1 A2 A3 us vs ts ∧ Hid (lruChk us vs ts = 0) ∧ Hid (ts.length = 16) ∧ Below w.heap.size w wr)
    (fun v _ => 30 - (intOf v).toNat)
  case atStart => exact ⟨0, by omega, by omega, rfl, X1, x1, X2, x2, X3, x3, xs, ys, rs, Blk.new_ rfl rfl, M1.out, HCK0, HLT0, H1.out.alloc hz1 _⟩
  case round =>
    obtain ⟨k, hk, hk30, rfl, A1, c1, A2, c2, A3, c3, us, vs, ts, bk, m_, HCK, HLT, hbw⟩ := hrel
    have k0 := (bk.cell_ 0).trans (by simp : _ = some (.slice A1 us.length c1))
    have k1 := (bk.cell_ 1).trans (by simp : _ = some (.slice A2 vs.length c2))
    have k2 := (bk.cell_ 2).trans (by simp : _ = some (.slice A3 ts.length c3))
    have hzr : w.heap.size ≤ wr.heap.size := hbw.size
    have hz1r : w1.heap.size < wr.heap.size := bk.lt
    have BK := Lib.hid bk; have M := Lib.hid m_
    clear bk m_
    by_cases hkn : k < steps.length ∧ k < 30
    · obtain ⟨hks, hk3⟩ := hkn
      obtain ⟨b, off, x, rfl, hbl, hx, hc⟩ := (HS'.out.ext hbw).at_ hks
      obtain ⟨m, hm⟩ : ∃ m, x % 80 = m := ⟨_, rfl⟩
      have m0 : 0 ≤ m := by omega
      have m1 : m < 80 := by omega
      obtain ⟨f, hdiv⟩ : ∃ f, m / 5 = f := ⟨_, rfl⟩
      have hf0 : 0 ≤ f := by omega
      have hf1 : f < 16 := by omega
      have hcd : lruChd us vs ts f = 0 := chd_of HCK.out hf0 (by have := HLT.out; omega)
      obtain ⟨wh, hwh⟩ : ∃ wh, fWhere us vs f = wh := ⟨_, rfl⟩
      have HMM := Lib.hid hm; have HCD := Lib.hid hcd
      have hlu : us.length ≤ 300 := by have h1 := (valid_of_chk HCK.out).len; have h2 := (valid_of_chk HCK.out).hi; omega
      have hlv : vs.length ≤ 300 := by have h1 := (valid_of_chk HCK.out).len; have h2 := (valid_of_chk HCK.out).hi; omega
      have d1 : decide ((k : Int) < steps.length) = true := by simp; omega
      have d2 : decide ((k : Int) < 30) = true := by simp; omega
      have i1 : (k : Int) < steps.length := by omega
      clear hx hm hcd
      rcases (by omega : m % 5 = 0 ∨ m % 5 = 1 ∨ m % 5 = 2 ∨ m % 5 = 3 ∨ m % 5 = 4) with hj | hj | hj | hj | hj
      · have hmod : m % 5 = 0 := hj
        clear hj
        rcases (Decidable.em (wh = 0)) with hwz | hwz
        · subst hwz
          have HWH := Lib.hid hwh
          clear hwh
          have hS : addS us vs ts f = (LR.mk (f :: us) vs ts 0) := by unfold addS; rw [if_neg (by simpa using HCD.out), if_neg (by simpa using HWH.out)]
          obtain ⟨q1, q2⟩ := fWhere_zero HWH.out
          have hfc : lruChk (LR.mk (f :: us) vs ts 0).xs (LR.mk (f :: us) vs ts 0).ys (LR.mk (f :: us) vs ts 0).rs = 0 ∧ (LR.mk (f :: us) vs ts 0).rs.length = 16 ∧ (LR.mk (f :: us) vs ts 0).xs.length + (LR.mk (f :: us) vs ts 0).ys.length = us.length + vs.length + 1 ∧ (LR.mk (f :: us) vs ts 0).e = 0 := ⟨chk_add (valid_of_chk HCK.out) (by simp [q1, q2]) hf0 (by show f < (ts.length : Int); have := HLT.out; omega), HLT.out, by simp; omega, rfl⟩
          obtain ⟨⟨us', vs', ts', z'⟩, hR⟩ : ∃ R : LR, (LR.mk (f :: us) vs ts 0) = R := ⟨_, rfl⟩
          rw [hR] at hS hfc
          obtain ⟨hck', hlt', hsz', hz'⟩ := hfc
          dsimp only at hck' hlt' hsz' hz'
          subst hz'
          have HSS := Lib.hid hS; have HCK2 := Lib.hid hck'; have HLT2 := Lib.hid hlt'
          have hne : ((us'.length : Int) + vs'.length != (us.length : Int) + vs.length + 1) = false := by simp; omega
          have lz1 : us'.length ≤ 300 := by have h1 := (valid_of_chk hck').len; have h2 := (valid_of_chk hck').hi; omega
          have lz2 : vs'.length ≤ 300 := by have h1 := (valid_of_chk hck').len; have h2 := (valid_of_chk hck').hi; omega
          clear hS hck' hlt' hsz' hR
          go_wp2_with fail
          refine (Mod_any _ _ _ (by omega) (by omega)).mono ?_
          rw [HMM.out]
          rintro e w' ⟨rfl, rfl⟩
          go_wp2_with fail
          refine (size_any _ _ _ _ _ _ _ _ _ _ (by omega) (by omega)).mono ?_
          rintro e wA ⟨rfl, hA⟩
          have zA : wr.heap.size ≤ wA.heap.size := hA.size
          have bA := BK.out.below_ hA BK.out.lt
          have a0 := (bA.cell_ 0).trans (by simp : _ = some (.slice A1 us.length c1))
          have a1 := (bA.cell_ 1).trans (by simp : _ = some (.slice A2 vs.length c2))
          have a2 := (bA.cell_ 2).trans (by simp : _ = some (.slice A3 ts.length c3))
          have BA := Lib.hid bA
          clear k0 k1 k2 bA
          go_wp2_with fail
          refine (Where_S _ _ _ _ _ _ _ _ _ _ (M.out.ext hA) f).mono ?_
          rw [HCD.out, if_neg (by simp), HWH.out]
          rintro e wB ⟨rfl, hB⟩
          have zB : wA.heap.size ≤ wB.heap.size := hB.size
          have bB := BA.out.below_ hB BA.out.lt
          have e0 := (bB.cell_ 0).trans (by simp : _ = some (.slice A1 us.length c1))
          have e1 := (bB.cell_ 1).trans (by simp : _ = some (.slice A2 vs.length c2))
          have e2 := (bB.cell_ 2).trans (by simp : _ = some (.slice A3 ts.length c3))
          have hLB : w1.heap.size < wB.heap.size := bB.lt
          have hAB : Below wr.heap.size wr wB := hA.trans (hB.mono zA)
          have BB := Lib.hid bB; have HAB := Lib.hid hAB
          clear a0 a1 a2 bB hA hB hAB
          obtain ⟨WX, hWX⟩ : ∃ WX, WX = wB.alloc (.cells #[.slice none 0 0, .slice none 0 0, .slice none 0 0] 25) := ⟨_, rfl⟩
          have bWX : Below wB.heap.size wB WX := by rw [hWX]; exact (by repeat' (first | with_reducible exact Below.refl _ _ | with_reducible assumption | with_reducible apply Below.drew | with_reducible apply below_drewN | with_reducible apply Below.alloc | with_reducible apply Below.setCell | (with_reducible refine Below.trans ?_ (Below.mono (by assumption) ?_)) | (simp; done) | (simp; omega) | omega | with_reducible apply le_size_alloc | with_reducible apply le_size_drewN | with_reducible apply le_size_drew | with_reducible apply le_size_setCell | refine Nat.le_trans ?_ (Below.size (by assumption))))
          have szX : WX.heap.size = wB.heap.size + 1 := by rw [hWX]; simp
          have BX : Hid (Blk WX wB.heap.size 25 #[.slice none 0 0, .slice none 0 0, .slice none 0 0]) := by rw [hWX]; exact Blk.new_ rfl rfl
          have BLX := Lib.hid (BB.out.below_ bWX hLB)
          have hWb : Below wr.heap.size wr WX := HAB.out.trans (bWX.mono (by omega))
          have MX := Lib.hid (M.out.ext hWb)
          have HWb := Lib.hid hWb
          clear bWX hWb
          go_wp2_with fail
          rw [← hWX]
          clear hWX e0 e1 e2
          refine (Add_S _ _ _ _ _ _ _ _ _ _ MX.out f).mono ?_
          unfold LPost
          rw [HSS.out]
          rintro e w5 ⟨B1, b1, B2, b2, B3, b3, rfl, m5, t5, h5⟩
          dsimp only at m5 ⊢
          have z5 : WX.heap.size ≤ w5.heap.size := h5.size
          have x5 := BX.out.below_ h5 BX.out.lt
          have l5 := BLX.out.below_ h5 BLX.out.lt
          have i0 := (x5.cell_ 0).trans (by simp : _ = some (.slice none 0 0))
          have i1 := (x5.cell_ 1).trans (by simp : _ = some (.slice none 0 0))
          have i2 := (x5.cell_ 2).trans (by simp : _ = some (.slice none 0 0))
          have i3 := x5.frozen_ 0; have i4 := x5.frozen_ 1; have i5 := x5.frozen_ 2
          have nXL : ¬ wB.heap.size = w1.heap.size := by omega
          have nXL' : ¬ w1.heap.size = wB.heap.size := by omega
          obtain ⟨W6, hW6⟩ : ∃ W6, W6 = ((w5.setCell ⟨wB.heap.size, 0, none⟩ (.slice B1 us'.length b1)).setCell ⟨wB.heap.size, 1, none⟩ (.slice B2 vs'.length b2)).setCell ⟨wB.heap.size, 2, none⟩ (.slice B3 ts'.length b3) := ⟨_, rfl⟩
          have M6 : Hid (InMem W6 B1 B2 B3 us' vs' ts') := by rw [hW6]; exact ((m5.far_ t5 (by omega) _ _).far_ t5 (by omega) _ _).far_ t5 (by omega) _ _
          have X6 : Hid (Blk W6 wB.heap.size 25 #[.slice B1 us'.length b1, .slice B2 vs'.length b2, .slice B3 ts'.length b3]) := by
            rw [hW6]
            have := ((x5.set_ 0 (.slice B1 us'.length b1)).set_ 1 (.slice B2 vs'.length b2)).set_ 2 (.slice B3 ts'.length b3)
            show Blk _ _ _ _
            simpa using this
          have L6 : Hid (Blk W6 w1.heap.size 25 #[.slice A1 us.length c1, .slice A2 vs.length c2, .slice A3 ts.length c3]) := by
            rw [hW6]
            exact ((l5.far_ (by simp; omega) _).far_ (by simp; omega) _).far_ (by simp; omega) _
          have HB6 : Hid (Below wr.heap.size wr W6) := by
            show Below _ _ _
            rw [hW6]
            have b6 : Below wr.heap.size wr w5 := HWb.out.trans (h5.mono (by omega))
            exact ((b6.setCell (by show _ ≤ wB.heap.size; omega) _).setCell (by show _ ≤ wB.heap.size; omega) _).setCell (by show _ ≤ wB.heap.size; omega) _
          have sz6 : W6.heap.size = w5.heap.size := by rw [hW6]; simp [World.setCell]
          have T5 := Lib.hid t5
          clear x5 l5 m5 t5 h5
          go_wp2_with fail
          rw [← hW6]
          clear hW6 i0 i1 i2 i3 i4 i5
          refine (M6.out.check _ _ _).mono ?_
          rw [HCK2.out]
          rintro e w7 ⟨rfl, h7⟩
          have x7 := X6.out.below_ h7 X6.out.lt
          have i0 := (x7.cell_ 0).trans (by simp : _ = some (.slice B1 us'.length b1))
          have i1 := (x7.cell_ 1).trans (by simp : _ = some (.slice B2 vs'.length b2))
          have i2 := (x7.cell_ 2).trans (by simp : _ = some (.slice B3 ts'.length b3))
          have X7 := Lib.hid x7
          clear x7
          go_wp2_with fail
          refine (size_any _ _ _ _ _ _ _ _ _ _ (by omega) (by omega)).mono ?_
          rintro e w8 ⟨rfl, h8⟩
          have x8 := X7.out.below_ h8 X7.out.lt
          have h78 : Below W6.heap.size W6 w8 := h7.trans (h8.mono h7.size)
          have l8 := L6.out.below_ h78 L6.out.lt
          have z8 : W6.heap.size ≤ w8.heap.size := h78.size
          have j0 := (x8.cell_ 0).trans (by simp : _ = some (.slice B1 us'.length b1))
          have j1 := (x8.cell_ 1).trans (by simp : _ = some (.slice B2 vs'.length b2))
          have j2 := (x8.cell_ 2).trans (by simp : _ = some (.slice B3 ts'.length b3))
          have k0 := (l8.cell_ 0).trans (by simp : _ = some (.slice A1 us.length c1))
          have k1 := (l8.cell_ 1).trans (by simp : _ = some (.slice A2 vs.length c2))
          have k2 := (l8.cell_ 2).trans (by simp : _ = some (.slice A3 ts.length c3))
          have k3 := l8.frozen_ 0; have k4 := l8.frozen_ 1; have k5 := l8.frozen_ 2
          have L8 := Lib.hid l8; have H78 := Lib.hid h78
          clear x8 l8 h78 h7 h8 i0 i1 i2
          go_wp2
          go_roundw
          case rel =>
            have m8 := M6.out.ext H78.out
            refine ⟨k + 1, by omega, by omega, by go_num, B1, b1, B2, b2, B3, b3, us', vs', ts', ?_, ((m8.far_ T5.out (by omega) _ _).far_ T5.out (by omega) _ _).far_ T5.out (by omega) _ _, HCK2, HLT2, ?_⟩
            · have := ((L8.out.set_ 0 (.slice B1 us'.length b1)).set_ 1 (.slice B2 vs'.length b2)).set_ 2 (.slice B3 ts'.length b3)
              simpa using this
            · have hb9 : Below w.heap.size w w8 := (hbw.trans (HB6.out.mono (by omega))).trans (H78.out.mono (by have := HB6.out.size; omega))
              exact ((hb9.setCell (by show _ ≤ w1.heap.size; omega) _).setCell (by show _ ≤ w1.heap.size; omega) _).setCell (by show _ ≤ w1.heap.size; omega) _
          case measure => simp [intOf]; omega
        · have hw0 : (wh == 0) = false := by simpa using hwz
          have hw1 : (wh != 0) = true := by simpa using hwz
          have HWH := Lib.hid hwh
          have HWZ := Lib.hid hwz
          clear hwh hwz
          have hS : addS us vs ts f = LR.bad 7 := by unfold addS; rw [if_neg (by simpa using HCD.out), if_pos (by rw [HWH.out]; exact HWZ.out)]
          have HSS := Lib.hid hS
          clear hS
          go_wp2_with fail
          refine (Mod_any _ _ _ (by omega) (by omega)).mono ?_
          rw [HMM.out]
          rintro e w' ⟨rfl, rfl⟩
          go_wp2_with fail
          refine (size_any _ _ _ _ _ _ _ _ _ _ (by omega) (by omega)).mono ?_
          rintro e wA ⟨rfl, hA⟩
          have zA : wr.heap.size ≤ wA.heap.size := hA.size
          have bA := BK.out.below_ hA BK.out.lt
          have a0 := (bA.cell_ 0).trans (by simp : _ = some (.slice A1 us.length c1))
          have a1 := (bA.cell_ 1).trans (by simp : _ = some (.slice A2 vs.length c2))
          have a2 := (bA.cell_ 2).trans (by simp : _ = some (.slice A3 ts.length c3))
          have BA := Lib.hid bA
          clear k0 k1 k2 bA
          go_wp2_with fail
          refine (Where_S _ _ _ _ _ _ _ _ _ _ (M.out.ext hA) f).mono ?_
          rw [HCD.out, if_neg (by simp), HWH.out]
          rintro e wB ⟨rfl, hB⟩
          have zB : wA.heap.size ≤ wB.heap.size := hB.size
          have bB := BA.out.below_ hB BA.out.lt
          have e0 := (bB.cell_ 0).trans (by simp : _ = some (.slice A1 us.length c1))
          have e1 := (bB.cell_ 1).trans (by simp : _ = some (.slice A2 vs.length c2))
          have e2 := (bB.cell_ 2).trans (by simp : _ = some (.slice A3 ts.length c3))
          have hLB : w1.heap.size < wB.heap.size := bB.lt
          have hAB : Below wr.heap.size wr wB := hA.trans (hB.mono zA)
          have BB := Lib.hid bB; have HAB := Lib.hid hAB
          clear a0 a1 a2 bB hA hB hAB
          obtain ⟨WX, hWX⟩ : ∃ WX, WX = wB.alloc (.cells #[.slice none 0 0, .slice none 0 0, .slice none 0 0] 25) := ⟨_, rfl⟩
          have bWX : Below wB.heap.size wB WX := by rw [hWX]; exact (by repeat' (first | with_reducible exact Below.refl _ _ | with_reducible assumption | with_reducible apply Below.drew | with_reducible apply below_drewN | with_reducible apply Below.alloc | with_reducible apply Below.setCell | (with_reducible refine Below.trans ?_ (Below.mono (by assumption) ?_)) | (simp; done) | (simp; omega) | omega | with_reducible apply le_size_alloc | with_reducible apply le_size_drewN | with_reducible apply le_size_drew | with_reducible apply le_size_setCell | refine Nat.le_trans ?_ (Below.size (by assumption))))
          have szX : WX.heap.size = wB.heap.size + 1 := by rw [hWX]; simp
          have BX : Hid (Blk WX wB.heap.size 25 #[.slice none 0 0, .slice none 0 0, .slice none 0 0]) := by rw [hWX]; exact Blk.new_ rfl rfl
          have BLX := Lib.hid (BB.out.below_ bWX hLB)
          have hWb : Below wr.heap.size wr WX := HAB.out.trans (bWX.mono (by omega))
          have MX := Lib.hid (M.out.ext hWb)
          have HWb := Lib.hid hWb
          clear bWX hWb
          go_wp2_with fail
          rw [← hWX]
          clear hWX e0 e1 e2
          refine (Add_S _ _ _ _ _ _ _ _ _ _ MX.out f).mono ?_
          unfold LPost
          rw [HSS.out]
          rintro e w5 ⟨B1, b1, B2, b2, B3, b3, rfl, _, _, h5⟩
          dsimp only [LR.bad]
          simp only [List.length_nil]
          have x5 := BX.out.below_ h5 BX.out.lt
          have l5 := BLX.out.below_ h5 BLX.out.lt
          have i0 := (x5.cell_ 0).trans (by simp : _ = some (.slice none 0 0))
          have i1 := (x5.cell_ 1).trans (by simp : _ = some (.slice none 0 0))
          have i2 := (x5.cell_ 2).trans (by simp : _ = some (.slice none 0 0))
          have i3 := x5.frozen_ 0; have i4 := x5.frozen_ 1; have i5 := x5.frozen_ 2
          have k0 := (l5.cell_ 0).trans (by simp : _ = some (.slice A1 us.length c1))
          have k1 := (l5.cell_ 1).trans (by simp : _ = some (.slice A2 vs.length c2))
          have nXL : ¬ wB.heap.size = w1.heap.size := by omega
          have nXL' : ¬ w1.heap.size = wB.heap.size := by omega
          have H5 := Lib.hid h5
          clear x5 l5 h5
          go_wp2
          go_roundw
          case rel =>
            have b6 : Below wr.heap.size wr w5 := HWb.out.trans (H5.out.mono (by omega))
            have b7 : Below wr.heap.size wr (((w5.setCell ⟨wB.heap.size, 0, none⟩ (.slice B1 0 b1)).setCell ⟨wB.heap.size, 1, none⟩ (.slice B2 0 b2)).setCell ⟨wB.heap.size, 2, none⟩ (.slice B3 0 b3)) := ((b6.setCell (by show _ ≤ wB.heap.size; omega) _).setCell (by show _ ≤ wB.heap.size; omega) _).setCell (by show _ ≤ wB.heap.size; omega) _
            exact ⟨k + 1, by omega, by omega, by go_num, A1, c1, A2, c2, A3, c3, us, vs, ts, BK.out.below_ b7 BK.out.lt, M.out.ext b7, HCK, HLT, hbw.trans (b7.mono (by omega))⟩
          case measure => simp [intOf]; omega
      · have hmod : m % 5 = 1 := hj
        clear hj
        rcases (Decidable.em (wh = 0)).symm with hwz | hwz
        · have hw0 : (wh == 0) = false := by simpa using hwz
          have hw1 : (wh != 0) = true := by simpa using hwz
          have HWH := Lib.hid hwh
          have HWZ := Lib.hid hwz
          clear hwh hwz
          have hS : remS us vs ts f = (LR.mk (wo f us) (wo f vs) (ts.set f.toNat false) 0) := by unfold remS; rw [if_neg (by simpa using HCD.out), if_neg (by rw [HWH.out]; exact HWZ.out)]
          have hfc : lruChk (LR.mk (wo f us) (wo f vs) (ts.set f.toNat false) 0).xs (LR.mk (wo f us) (wo f vs) (ts.set f.toNat false) 0).ys (LR.mk (wo f us) (wo f vs) (ts.set f.toNat false) 0).rs = 0 ∧ (LR.mk (wo f us) (wo f vs) (ts.set f.toNat false) 0).rs.length = 16 ∧ (LR.mk (wo f us) (wo f vs) (ts.set f.toNat false) 0).xs.length + (LR.mk (wo f us) (wo f vs) (ts.set f.toNat false) 0).ys.length + 1 = us.length + vs.length ∧ (LR.mk (wo f us) (wo f vs) (ts.set f.toNat false) 0).e = 0 := ⟨chk_rem (valid_of_chk HCK.out) hf0, by simpa using HLT.out, wo_size (valid_of_chk HCK.out) (by rw [HWH.out]; exact HWZ.out), rfl⟩
          obtain ⟨⟨us', vs', ts', z'⟩, hR⟩ : ∃ R : LR, (LR.mk (wo f us) (wo f vs) (ts.set f.toNat false) 0) = R := ⟨_, rfl⟩
          rw [hR] at hS hfc
          obtain ⟨hck', hlt', hsz', hz'⟩ := hfc
          dsimp only at hck' hlt' hsz' hz'
          subst hz'
          have HSS := Lib.hid hS; have HCK2 := Lib.hid hck'; have HLT2 := Lib.hid hlt'
          have hne : ((us'.length : Int) + vs'.length != (us.length : Int) + vs.length - 1) = false := by simp; omega
          have lz1 : us'.length ≤ 300 := by have h1 := (valid_of_chk hck').len; have h2 := (valid_of_chk hck').hi; omega
          have lz2 : vs'.length ≤ 300 := by have h1 := (valid_of_chk hck').len; have h2 := (valid_of_chk hck').hi; omega
          clear hS hck' hlt' hsz' hR
          go_wp2_with fail
          refine (Mod_any _ _ _ (by omega) (by omega)).mono ?_
          rw [HMM.out]
          rintro e w' ⟨rfl, rfl⟩
          go_wp2_with fail
          refine (size_any _ _ _ _ _ _ _ _ _ _ (by omega) (by omega)).mono ?_
          rintro e wA ⟨rfl, hA⟩
          have zA : wr.heap.size ≤ wA.heap.size := hA.size
          have bA := BK.out.below_ hA BK.out.lt
          have a0 := (bA.cell_ 0).trans (by simp : _ = some (.slice A1 us.length c1))
          have a1 := (bA.cell_ 1).trans (by simp : _ = some (.slice A2 vs.length c2))
          have a2 := (bA.cell_ 2).trans (by simp : _ = some (.slice A3 ts.length c3))
          have BA := Lib.hid bA
          clear k0 k1 k2 bA
          go_wp2_with fail
          refine (Where_S _ _ _ _ _ _ _ _ _ _ (M.out.ext hA) f).mono ?_
          rw [HCD.out, if_neg (by simp), HWH.out]
          rintro e wB ⟨rfl, hB⟩
          have zB : wA.heap.size ≤ wB.heap.size := hB.size
          have bB := BA.out.below_ hB BA.out.lt
          have e0 := (bB.cell_ 0).trans (by simp : _ = some (.slice A1 us.length c1))
          have e1 := (bB.cell_ 1).trans (by simp : _ = some (.slice A2 vs.length c2))
          have e2 := (bB.cell_ 2).trans (by simp : _ = some (.slice A3 ts.length c3))
          have hLB : w1.heap.size < wB.heap.size := bB.lt
          have hAB : Below wr.heap.size wr wB := hA.trans (hB.mono zA)
          have BB := Lib.hid bB; have HAB := Lib.hid hAB
          clear a0 a1 a2 bB hA hB hAB
          obtain ⟨WX, hWX⟩ : ∃ WX, WX = wB.alloc (.cells #[.slice none 0 0, .slice none 0 0, .slice none 0 0] 25) := ⟨_, rfl⟩
          have bWX : Below wB.heap.size wB WX := by rw [hWX]; exact (by repeat' (first | with_reducible exact Below.refl _ _ | with_reducible assumption | with_reducible apply Below.drew | with_reducible apply below_drewN | with_reducible apply Below.alloc | with_reducible apply Below.setCell | (with_reducible refine Below.trans ?_ (Below.mono (by assumption) ?_)) | (simp; done) | (simp; omega) | omega | with_reducible apply le_size_alloc | with_reducible apply le_size_drewN | with_reducible apply le_size_drew | with_reducible apply le_size_setCell | refine Nat.le_trans ?_ (Below.size (by assumption))))
          have szX : WX.heap.size = wB.heap.size + 1 := by rw [hWX]; simp
          have BX : Hid (Blk WX wB.heap.size 25 #[.slice none 0 0, .slice none 0 0, .slice none 0 0]) := by rw [hWX]; exact Blk.new_ rfl rfl
          have BLX := Lib.hid (BB.out.below_ bWX hLB)
          have hWb : Below wr.heap.size wr WX := HAB.out.trans (bWX.mono (by omega))
          have MX := Lib.hid (M.out.ext hWb)
          have HWb := Lib.hid hWb
          clear bWX hWb
          go_wp2_with fail
          rw [← hWX]
          clear hWX e0 e1 e2
          refine (Remove_S _ _ _ _ _ _ _ _ _ _ MX.out f).mono ?_
          unfold LPost
          rw [HSS.out]
          rintro e w5 ⟨B1, b1, B2, b2, B3, b3, rfl, m5, t5, h5⟩
          dsimp only at m5 ⊢
          have z5 : WX.heap.size ≤ w5.heap.size := h5.size
          have x5 := BX.out.below_ h5 BX.out.lt
          have l5 := BLX.out.below_ h5 BLX.out.lt
          have i0 := (x5.cell_ 0).trans (by simp : _ = some (.slice none 0 0))
          have i1 := (x5.cell_ 1).trans (by simp : _ = some (.slice none 0 0))
          have i2 := (x5.cell_ 2).trans (by simp : _ = some (.slice none 0 0))
          have i3 := x5.frozen_ 0; have i4 := x5.frozen_ 1; have i5 := x5.frozen_ 2
          have nXL : ¬ wB.heap.size = w1.heap.size := by omega
          have nXL' : ¬ w1.heap.size = wB.heap.size := by omega
          obtain ⟨W6, hW6⟩ : ∃ W6, W6 = ((w5.setCell ⟨wB.heap.size, 0, none⟩ (.slice B1 us'.length b1)).setCell ⟨wB.heap.size, 1, none⟩ (.slice B2 vs'.length b2)).setCell ⟨wB.heap.size, 2, none⟩ (.slice B3 ts'.length b3) := ⟨_, rfl⟩
          have M6 : Hid (InMem W6 B1 B2 B3 us' vs' ts') := by rw [hW6]; exact ((m5.far_ t5 (by omega) _ _).far_ t5 (by omega) _ _).far_ t5 (by omega) _ _
          have X6 : Hid (Blk W6 wB.heap.size 25 #[.slice B1 us'.length b1, .slice B2 vs'.length b2, .slice B3 ts'.length b3]) := by
            rw [hW6]
            have := ((x5.set_ 0 (.slice B1 us'.length b1)).set_ 1 (.slice B2 vs'.length b2)).set_ 2 (.slice B3 ts'.length b3)
            show Blk _ _ _ _
            simpa using this
          have L6 : Hid (Blk W6 w1.heap.size 25 #[.slice A1 us.length c1, .slice A2 vs.length c2, .slice A3 ts.length c3]) := by
            rw [hW6]
            exact ((l5.far_ (by simp; omega) _).far_ (by simp; omega) _).far_ (by simp; omega) _
          have HB6 : Hid (Below wr.heap.size wr W6) := by
            show Below _ _ _
            rw [hW6]
            have b6 : Below wr.heap.size wr w5 := HWb.out.trans (h5.mono (by omega))
            exact ((b6.setCell (by show _ ≤ wB.heap.size; omega) _).setCell (by show _ ≤ wB.heap.size; omega) _).setCell (by show _ ≤ wB.heap.size; omega) _
          have sz6 : W6.heap.size = w5.heap.size := by rw [hW6]; simp [World.setCell]
          have T5 := Lib.hid t5
          clear x5 l5 m5 t5 h5
          go_wp2_with fail
          rw [← hW6]
          clear hW6 i0 i1 i2 i3 i4 i5
          refine (M6.out.check _ _ _).mono ?_
          rw [HCK2.out]
          rintro e w7 ⟨rfl, h7⟩
          have x7 := X6.out.below_ h7 X6.out.lt
          have i0 := (x7.cell_ 0).trans (by simp : _ = some (.slice B1 us'.length b1))
          have i1 := (x7.cell_ 1).trans (by simp : _ = some (.slice B2 vs'.length b2))
          have i2 := (x7.cell_ 2).trans (by simp : _ = some (.slice B3 ts'.length b3))
          have X7 := Lib.hid x7
          clear x7
          go_wp2_with fail
          refine (size_any _ _ _ _ _ _ _ _ _ _ (by omega) (by omega)).mono ?_
          rintro e w8 ⟨rfl, h8⟩
          have x8 := X7.out.below_ h8 X7.out.lt
          have h78 : Below W6.heap.size W6 w8 := h7.trans (h8.mono h7.size)
          have l8 := L6.out.below_ h78 L6.out.lt
          have z8 : W6.heap.size ≤ w8.heap.size := h78.size
          have j0 := (x8.cell_ 0).trans (by simp : _ = some (.slice B1 us'.length b1))
          have j1 := (x8.cell_ 1).trans (by simp : _ = some (.slice B2 vs'.length b2))
          have j2 := (x8.cell_ 2).trans (by simp : _ = some (.slice B3 ts'.length b3))
          have k0 := (l8.cell_ 0).trans (by simp : _ = some (.slice A1 us.length c1))
          have k1 := (l8.cell_ 1).trans (by simp : _ = some (.slice A2 vs.length c2))
          have k2 := (l8.cell_ 2).trans (by simp : _ = some (.slice A3 ts.length c3))
          have k3 := l8.frozen_ 0; have k4 := l8.frozen_ 1; have k5 := l8.frozen_ 2
          have L8 := Lib.hid l8; have H78 := Lib.hid h78
          clear x8 l8 h78 h7 h8 i0 i1 i2
          go_wp2
          go_roundw
          case rel =>
            have m8 := M6.out.ext H78.out
            refine ⟨k + 1, by omega, by omega, by go_num, B1, b1, B2, b2, B3, b3, us', vs', ts', ?_, ((m8.far_ T5.out (by omega) _ _).far_ T5.out (by omega) _ _).far_ T5.out (by omega) _ _, HCK2, HLT2, ?_⟩
            · have := ((L8.out.set_ 0 (.slice B1 us'.length b1)).set_ 1 (.slice B2 vs'.length b2)).set_ 2 (.slice B3 ts'.length b3)
              simpa using this
            · have hb9 : Below w.heap.size w w8 := (hbw.trans (HB6.out.mono (by omega))).trans (H78.out.mono (by have := HB6.out.size; omega))
              exact ((hb9.setCell (by show _ ≤ w1.heap.size; omega) _).setCell (by show _ ≤ w1.heap.size; omega) _).setCell (by show _ ≤ w1.heap.size; omega) _
          case measure => simp [intOf]; omega
        · subst hwz
          have HWH := Lib.hid hwh
          clear hwh
          have hS : remS us vs ts f = LR.bad 6 := by unfold remS; rw [if_neg (by simpa using HCD.out), if_pos HWH.out]
          have HSS := Lib.hid hS
          clear hS
          go_wp2_with fail
          refine (Mod_any _ _ _ (by omega) (by omega)).mono ?_
          rw [HMM.out]
          rintro e w' ⟨rfl, rfl⟩
          go_wp2_with fail
          refine (size_any _ _ _ _ _ _ _ _ _ _ (by omega) (by omega)).mono ?_
          rintro e wA ⟨rfl, hA⟩
          have zA : wr.heap.size ≤ wA.heap.size := hA.size
          have bA := BK.out.below_ hA BK.out.lt
          have a0 := (bA.cell_ 0).trans (by simp : _ = some (.slice A1 us.length c1))
          have a1 := (bA.cell_ 1).trans (by simp : _ = some (.slice A2 vs.length c2))
          have a2 := (bA.cell_ 2).trans (by simp : _ = some (.slice A3 ts.length c3))
          have BA := Lib.hid bA
          clear k0 k1 k2 bA
          go_wp2_with fail
          refine (Where_S _ _ _ _ _ _ _ _ _ _ (M.out.ext hA) f).mono ?_
          rw [HCD.out, if_neg (by simp), HWH.out]
          rintro e wB ⟨rfl, hB⟩
          have zB : wA.heap.size ≤ wB.heap.size := hB.size
          have bB := BA.out.below_ hB BA.out.lt
          have e0 := (bB.cell_ 0).trans (by simp : _ = some (.slice A1 us.length c1))
          have e1 := (bB.cell_ 1).trans (by simp : _ = some (.slice A2 vs.length c2))
          have e2 := (bB.cell_ 2).trans (by simp : _ = some (.slice A3 ts.length c3))
          have hLB : w1.heap.size < wB.heap.size := bB.lt
          have hAB : Below wr.heap.size wr wB := hA.trans (hB.mono zA)
          have BB := Lib.hid bB; have HAB := Lib.hid hAB
          clear a0 a1 a2 bB hA hB hAB
          obtain ⟨WX, hWX⟩ : ∃ WX, WX = wB.alloc (.cells #[.slice none 0 0, .slice none 0 0, .slice none 0 0] 25) := ⟨_, rfl⟩
          have bWX : Below wB.heap.size wB WX := by rw [hWX]; exact (by repeat' (first | with_reducible exact Below.refl _ _ | with_reducible assumption | with_reducible apply Below.drew | with_reducible apply below_drewN | with_reducible apply Below.alloc | with_reducible apply Below.setCell | (with_reducible refine Below.trans ?_ (Below.mono (by assumption) ?_)) | (simp; done) | (simp; omega) | omega | with_reducible apply le_size_alloc | with_reducible apply le_size_drewN | with_reducible apply le_size_drew | with_reducible apply le_size_setCell | refine Nat.le_trans ?_ (Below.size (by assumption))))
          have szX : WX.heap.size = wB.heap.size + 1 := by rw [hWX]; simp
          have BX : Hid (Blk WX wB.heap.size 25 #[.slice none 0 0, .slice none 0 0, .slice none 0 0]) := by rw [hWX]; exact Blk.new_ rfl rfl
          have BLX := Lib.hid (BB.out.below_ bWX hLB)
          have hWb : Below wr.heap.size wr WX := HAB.out.trans (bWX.mono (by omega))
          have MX := Lib.hid (M.out.ext hWb)
          have HWb := Lib.hid hWb
          clear bWX hWb
          go_wp2_with fail
          rw [← hWX]
          clear hWX e0 e1 e2
          refine (Remove_S _ _ _ _ _ _ _ _ _ _ MX.out f).mono ?_
          unfold LPost
          rw [HSS.out]
          rintro e w5 ⟨B1, b1, B2, b2, B3, b3, rfl, _, _, h5⟩
          dsimp only [LR.bad]
          simp only [List.length_nil]
          have x5 := BX.out.below_ h5 BX.out.lt
          have l5 := BLX.out.below_ h5 BLX.out.lt
          have i0 := (x5.cell_ 0).trans (by simp : _ = some (.slice none 0 0))
          have i1 := (x5.cell_ 1).trans (by simp : _ = some (.slice none 0 0))
          have i2 := (x5.cell_ 2).trans (by simp : _ = some (.slice none 0 0))
          have i3 := x5.frozen_ 0; have i4 := x5.frozen_ 1; have i5 := x5.frozen_ 2
          have k0 := (l5.cell_ 0).trans (by simp : _ = some (.slice A1 us.length c1))
          have k1 := (l5.cell_ 1).trans (by simp : _ = some (.slice A2 vs.length c2))
          have nXL : ¬ wB.heap.size = w1.heap.size := by omega
          have nXL' : ¬ w1.heap.size = wB.heap.size := by omega
          have H5 := Lib.hid h5
          clear x5 l5 h5
          go_wp2
          go_roundw
          case rel =>
            have b6 : Below wr.heap.size wr w5 := HWb.out.trans (H5.out.mono (by omega))
            have b7 : Below wr.heap.size wr (((w5.setCell ⟨wB.heap.size, 0, none⟩ (.slice B1 0 b1)).setCell ⟨wB.heap.size, 1, none⟩ (.slice B2 0 b2)).setCell ⟨wB.heap.size, 2, none⟩ (.slice B3 0 b3)) := ((b6.setCell (by show _ ≤ wB.heap.size; omega) _).setCell (by show _ ≤ wB.heap.size; omega) _).setCell (by show _ ≤ wB.heap.size; omega) _
            exact ⟨k + 1, by omega, by omega, by go_num, A1, c1, A2, c2, A3, c3, us, vs, ts, BK.out.below_ b7 BK.out.lt, M.out.ext b7, HCK, HLT, hbw.trans (b7.mono (by omega))⟩
          case measure => simp [intOf]; omega
      · have hmod : m % 5 = 2 := hj
        clear hj
        rcases (Decidable.em (wh = 0)).symm with hwz | hwz
        · have hw0 : (wh == 0) = false := by simpa using hwz
          have hw1 : (wh != 0) = true := by simpa using hwz
          have HWH := Lib.hid hwh
          have HWZ := Lib.hid hwz
          clear hwh hwz
          have hS : touS us vs ts f = (LR.mk us vs (ts.set f.toNat true) 0) := by unfold touS; rw [if_neg (by simpa using HCD.out), if_neg (by rw [HWH.out]; exact HWZ.out)]
          have hfc : lruChk (LR.mk us vs (ts.set f.toNat true) 0).xs (LR.mk us vs (ts.set f.toNat true) 0).ys (LR.mk us vs (ts.set f.toNat true) 0).rs = 0 ∧ (LR.mk us vs (ts.set f.toNat true) 0).rs.length = 16 ∧ (LR.mk us vs (ts.set f.toNat true) 0).xs.length + (LR.mk us vs (ts.set f.toNat true) 0).ys.length = us.length + vs.length ∧ (LR.mk us vs (ts.set f.toNat true) 0).e = 0 := ⟨chk_touch (valid_of_chk HCK.out) (fWhere_mem (by rw [HWH.out]; exact HWZ.out)) hf0, by simpa using HLT.out, rfl, rfl⟩
          obtain ⟨⟨us', vs', ts', z'⟩, hR⟩ : ∃ R : LR, (LR.mk us vs (ts.set f.toNat true) 0) = R := ⟨_, rfl⟩
          rw [hR] at hS hfc
          obtain ⟨hck', hlt', hsz', hz'⟩ := hfc
          dsimp only at hck' hlt' hsz' hz'
          subst hz'
          have HSS := Lib.hid hS; have HCK2 := Lib.hid hck'; have HLT2 := Lib.hid hlt'
          have hne : ((us'.length : Int) + vs'.length != (us.length : Int) + vs.length) = false := by simp; omega
          have lz1 : us'.length ≤ 300 := by have h1 := (valid_of_chk hck').len; have h2 := (valid_of_chk hck').hi; omega
          have lz2 : vs'.length ≤ 300 := by have h1 := (valid_of_chk hck').len; have h2 := (valid_of_chk hck').hi; omega
          clear hS hck' hlt' hsz' hR
          go_wp2_with fail
          refine (Mod_any _ _ _ (by omega) (by omega)).mono ?_
          rw [HMM.out]
          rintro e w' ⟨rfl, rfl⟩
          go_wp2_with fail
          refine (size_any _ _ _ _ _ _ _ _ _ _ (by omega) (by omega)).mono ?_
          rintro e wA ⟨rfl, hA⟩
          have zA : wr.heap.size ≤ wA.heap.size := hA.size
          have bA := BK.out.below_ hA BK.out.lt
          have a0 := (bA.cell_ 0).trans (by simp : _ = some (.slice A1 us.length c1))
          have a1 := (bA.cell_ 1).trans (by simp : _ = some (.slice A2 vs.length c2))
          have a2 := (bA.cell_ 2).trans (by simp : _ = some (.slice A3 ts.length c3))
          have BA := Lib.hid bA
          clear k0 k1 k2 bA
          go_wp2_with fail
          refine (Where_S _ _ _ _ _ _ _ _ _ _ (M.out.ext hA) f).mono ?_
          rw [HCD.out, if_neg (by simp), HWH.out]
          rintro e wB ⟨rfl, hB⟩
          have zB : wA.heap.size ≤ wB.heap.size := hB.size
          have bB := BA.out.below_ hB BA.out.lt
          have e0 := (bB.cell_ 0).trans (by simp : _ = some (.slice A1 us.length c1))
          have e1 := (bB.cell_ 1).trans (by simp : _ = some (.slice A2 vs.length c2))
          have e2 := (bB.cell_ 2).trans (by simp : _ = some (.slice A3 ts.length c3))
          have hLB : w1.heap.size < wB.heap.size := bB.lt
          have hAB : Below wr.heap.size wr wB := hA.trans (hB.mono zA)
          have BB := Lib.hid bB; have HAB := Lib.hid hAB
          clear a0 a1 a2 bB hA hB hAB
          obtain ⟨WX, hWX⟩ : ∃ WX, WX = wB.alloc (.cells #[.slice none 0 0, .slice none 0 0, .slice none 0 0] 25) := ⟨_, rfl⟩
          have bWX : Below wB.heap.size wB WX := by rw [hWX]; exact (by repeat' (first | with_reducible exact Below.refl _ _ | with_reducible assumption | with_reducible apply Below.drew | with_reducible apply below_drewN | with_reducible apply Below.alloc | with_reducible apply Below.setCell | (with_reducible refine Below.trans ?_ (Below.mono (by assumption) ?_)) | (simp; done) | (simp; omega) | omega | with_reducible apply le_size_alloc | with_reducible apply le_size_drewN | with_reducible apply le_size_drew | with_reducible apply le_size_setCell | refine Nat.le_trans ?_ (Below.size (by assumption))))
          have szX : WX.heap.size = wB.heap.size + 1 := by rw [hWX]; simp
          have BX : Hid (Blk WX wB.heap.size 25 #[.slice none 0 0, .slice none 0 0, .slice none 0 0]) := by rw [hWX]; exact Blk.new_ rfl rfl
          have BLX := Lib.hid (BB.out.below_ bWX hLB)
          have hWb : Below wr.heap.size wr WX := HAB.out.trans (bWX.mono (by omega))
          have MX := Lib.hid (M.out.ext hWb)
          have HWb := Lib.hid hWb
          clear bWX hWb
          go_wp2_with fail
          rw [← hWX]
          clear hWX e0 e1 e2
          refine (Touch_S _ _ _ _ _ _ _ _ _ _ MX.out f).mono ?_
          unfold LPost
          rw [HSS.out]
          rintro e w5 ⟨B1, b1, B2, b2, B3, b3, rfl, m5, t5, h5⟩
          dsimp only at m5 ⊢
          have z5 : WX.heap.size ≤ w5.heap.size := h5.size
          have x5 := BX.out.below_ h5 BX.out.lt
          have l5 := BLX.out.below_ h5 BLX.out.lt
          have i0 := (x5.cell_ 0).trans (by simp : _ = some (.slice none 0 0))
          have i1 := (x5.cell_ 1).trans (by simp : _ = some (.slice none 0 0))
          have i2 := (x5.cell_ 2).trans (by simp : _ = some (.slice none 0 0))
          have i3 := x5.frozen_ 0; have i4 := x5.frozen_ 1; have i5 := x5.frozen_ 2
          have nXL : ¬ wB.heap.size = w1.heap.size := by omega
          have nXL' : ¬ w1.heap.size = wB.heap.size := by omega
          obtain ⟨W6, hW6⟩ : ∃ W6, W6 = ((w5.setCell ⟨wB.heap.size, 0, none⟩ (.slice B1 us'.length b1)).setCell ⟨wB.heap.size, 1, none⟩ (.slice B2 vs'.length b2)).setCell ⟨wB.heap.size, 2, none⟩ (.slice B3 ts'.length b3) := ⟨_, rfl⟩
          have M6 : Hid (InMem W6 B1 B2 B3 us' vs' ts') := by rw [hW6]; exact ((m5.far_ t5 (by omega) _ _).far_ t5 (by omega) _ _).far_ t5 (by omega) _ _
          have X6 : Hid (Blk W6 wB.heap.size 25 #[.slice B1 us'.length b1, .slice B2 vs'.length b2, .slice B3 ts'.length b3]) := by
            rw [hW6]
            have := ((x5.set_ 0 (.slice B1 us'.length b1)).set_ 1 (.slice B2 vs'.length b2)).set_ 2 (.slice B3 ts'.length b3)
            show Blk _ _ _ _
            simpa using this
          have L6 : Hid (Blk W6 w1.heap.size 25 #[.slice A1 us.length c1, .slice A2 vs.length c2, .slice A3 ts.length c3]) := by
            rw [hW6]
            exact ((l5.far_ (by simp; omega) _).far_ (by simp; omega) _).far_ (by simp; omega) _
          have HB6 : Hid (Below wr.heap.size wr W6) := by
            show Below _ _ _
            rw [hW6]
            have b6 : Below wr.heap.size wr w5 := HWb.out.trans (h5.mono (by omega))
            exact ((b6.setCell (by show _ ≤ wB.heap.size; omega) _).setCell (by show _ ≤ wB.heap.size; omega) _).setCell (by show _ ≤ wB.heap.size; omega) _
          have sz6 : W6.heap.size = w5.heap.size := by rw [hW6]; simp [World.setCell]
          have T5 := Lib.hid t5
          clear x5 l5 m5 t5 h5
          go_wp2_with fail
          rw [← hW6]
          clear hW6 i0 i1 i2 i3 i4 i5
          refine (M6.out.check _ _ _).mono ?_
          rw [HCK2.out]
          rintro e w7 ⟨rfl, h7⟩
          have x7 := X6.out.below_ h7 X6.out.lt
          have i0 := (x7.cell_ 0).trans (by simp : _ = some (.slice B1 us'.length b1))
          have i1 := (x7.cell_ 1).trans (by simp : _ = some (.slice B2 vs'.length b2))
          have i2 := (x7.cell_ 2).trans (by simp : _ = some (.slice B3 ts'.length b3))
          have X7 := Lib.hid x7
          clear x7
          go_wp2_with fail
          refine (size_any _ _ _ _ _ _ _ _ _ _ (by omega) (by omega)).mono ?_
          rintro e w8 ⟨rfl, h8⟩
          have x8 := X7.out.below_ h8 X7.out.lt
          have h78 : Below W6.heap.size W6 w8 := h7.trans (h8.mono h7.size)
          have l8 := L6.out.below_ h78 L6.out.lt
          have z8 : W6.heap.size ≤ w8.heap.size := h78.size
          have j0 := (x8.cell_ 0).trans (by simp : _ = some (.slice B1 us'.length b1))
          have j1 := (x8.cell_ 1).trans (by simp : _ = some (.slice B2 vs'.length b2))
          have j2 := (x8.cell_ 2).trans (by simp : _ = some (.slice B3 ts'.length b3))
          have k0 := (l8.cell_ 0).trans (by simp : _ = some (.slice A1 us.length c1))
          have k1 := (l8.cell_ 1).trans (by simp : _ = some (.slice A2 vs.length c2))
          have k2 := (l8.cell_ 2).trans (by simp : _ = some (.slice A3 ts.length c3))
          have k3 := l8.frozen_ 0; have k4 := l8.frozen_ 1; have k5 := l8.frozen_ 2
          have L8 := Lib.hid l8; have H78 := Lib.hid h78
          clear x8 l8 h78 h7 h8 i0 i1 i2
          go_wp2
          go_roundw
          case rel =>
            have m8 := M6.out.ext H78.out
            refine ⟨k + 1, by omega, by omega, by go_num, B1, b1, B2, b2, B3, b3, us', vs', ts', ?_, ((m8.far_ T5.out (by omega) _ _).far_ T5.out (by omega) _ _).far_ T5.out (by omega) _ _, HCK2, HLT2, ?_⟩
            · have := ((L8.out.set_ 0 (.slice B1 us'.length b1)).set_ 1 (.slice B2 vs'.length b2)).set_ 2 (.slice B3 ts'.length b3)
              simpa using this
            · have hb9 : Below w.heap.size w w8 := (hbw.trans (HB6.out.mono (by omega))).trans (H78.out.mono (by have := HB6.out.size; omega))
              exact ((hb9.setCell (by show _ ≤ w1.heap.size; omega) _).setCell (by show _ ≤ w1.heap.size; omega) _).setCell (by show _ ≤ w1.heap.size; omega) _
          case measure => simp [intOf]; omega
        · subst hwz
          have HWH := Lib.hid hwh
          clear hwh
          have hS : touS us vs ts f = LR.bad 6 := by unfold touS; rw [if_neg (by simpa using HCD.out), if_pos HWH.out]
          have HSS := Lib.hid hS
          clear hS
          go_wp2_with fail
          refine (Mod_any _ _ _ (by omega) (by omega)).mono ?_
          rw [HMM.out]
          rintro e w' ⟨rfl, rfl⟩
          go_wp2_with fail
          refine (size_any _ _ _ _ _ _ _ _ _ _ (by omega) (by omega)).mono ?_
          rintro e wA ⟨rfl, hA⟩
          have zA : wr.heap.size ≤ wA.heap.size := hA.size
          have bA := BK.out.below_ hA BK.out.lt
          have a0 := (bA.cell_ 0).trans (by simp : _ = some (.slice A1 us.length c1))
          have a1 := (bA.cell_ 1).trans (by simp : _ = some (.slice A2 vs.length c2))
          have a2 := (bA.cell_ 2).trans (by simp : _ = some (.slice A3 ts.length c3))
          have BA := Lib.hid bA
          clear k0 k1 k2 bA
          go_wp2_with fail
          refine (Where_S _ _ _ _ _ _ _ _ _ _ (M.out.ext hA) f).mono ?_
          rw [HCD.out, if_neg (by simp), HWH.out]
          rintro e wB ⟨rfl, hB⟩
          have zB : wA.heap.size ≤ wB.heap.size := hB.size
          have bB := BA.out.below_ hB BA.out.lt
          have e0 := (bB.cell_ 0).trans (by simp : _ = some (.slice A1 us.length c1))
          have e1 := (bB.cell_ 1).trans (by simp : _ = some (.slice A2 vs.length c2))
          have e2 := (bB.cell_ 2).trans (by simp : _ = some (.slice A3 ts.length c3))
          have hLB : w1.heap.size < wB.heap.size := bB.lt
          have hAB : Below wr.heap.size wr wB := hA.trans (hB.mono zA)
          have BB := Lib.hid bB; have HAB := Lib.hid hAB
          clear a0 a1 a2 bB hA hB hAB
          obtain ⟨WX, hWX⟩ : ∃ WX, WX = wB.alloc (.cells #[.slice none 0 0, .slice none 0 0, .slice none 0 0] 25) := ⟨_, rfl⟩
          have bWX : Below wB.heap.size wB WX := by rw [hWX]; exact (by repeat' (first | with_reducible exact Below.refl _ _ | with_reducible assumption | with_reducible apply Below.drew | with_reducible apply below_drewN | with_reducible apply Below.alloc | with_reducible apply Below.setCell | (with_reducible refine Below.trans ?_ (Below.mono (by assumption) ?_)) | (simp; done) | (simp; omega) | omega | with_reducible apply le_size_alloc | with_reducible apply le_size_drewN | with_reducible apply le_size_drew | with_reducible apply le_size_setCell | refine Nat.le_trans ?_ (Below.size (by assumption))))
          have szX : WX.heap.size = wB.heap.size + 1 := by rw [hWX]; simp
          have BX : Hid (Blk WX wB.heap.size 25 #[.slice none 0 0, .slice none 0 0, .slice none 0 0]) := by rw [hWX]; exact Blk.new_ rfl rfl
          have BLX := Lib.hid (BB.out.below_ bWX hLB)
          have hWb : Below wr.heap.size wr WX := HAB.out.trans (bWX.mono (by omega))
          have MX := Lib.hid (M.out.ext hWb)
          have HWb := Lib.hid hWb
          clear bWX hWb
          go_wp2_with fail
          rw [← hWX]
          clear hWX e0 e1 e2
          refine (Touch_S _ _ _ _ _ _ _ _ _ _ MX.out f).mono ?_
          unfold LPost
          rw [HSS.out]
          rintro e w5 ⟨B1, b1, B2, b2, B3, b3, rfl, _, _, h5⟩
          dsimp only [LR.bad]
          simp only [List.length_nil]
          have x5 := BX.out.below_ h5 BX.out.lt
          have l5 := BLX.out.below_ h5 BLX.out.lt
          have i0 := (x5.cell_ 0).trans (by simp : _ = some (.slice none 0 0))
          have i1 := (x5.cell_ 1).trans (by simp : _ = some (.slice none 0 0))
          have i2 := (x5.cell_ 2).trans (by simp : _ = some (.slice none 0 0))
          have i3 := x5.frozen_ 0; have i4 := x5.frozen_ 1; have i5 := x5.frozen_ 2
          have k0 := (l5.cell_ 0).trans (by simp : _ = some (.slice A1 us.length c1))
          have k1 := (l5.cell_ 1).trans (by simp : _ = some (.slice A2 vs.length c2))
          have nXL : ¬ wB.heap.size = w1.heap.size := by omega
          have nXL' : ¬ w1.heap.size = wB.heap.size := by omega
          have H5 := Lib.hid h5
          clear x5 l5 h5
          go_wp2
          go_roundw
          case rel =>
            have b6 : Below wr.heap.size wr w5 := HWb.out.trans (H5.out.mono (by omega))
            have b7 : Below wr.heap.size wr (((w5.setCell ⟨wB.heap.size, 0, none⟩ (.slice B1 0 b1)).setCell ⟨wB.heap.size, 1, none⟩ (.slice B2 0 b2)).setCell ⟨wB.heap.size, 2, none⟩ (.slice B3 0 b3)) := ((b6.setCell (by show _ ≤ wB.heap.size; omega) _).setCell (by show _ ≤ wB.heap.size; omega) _).setCell (by show _ ≤ wB.heap.size; omega) _
            exact ⟨k + 1, by omega, by omega, by go_num, A1, c1, A2, c2, A3, c3, us, vs, ts, BK.out.below_ b7 BK.out.lt, M.out.ext b7, HCK, HLT, hbw.trans (b7.mono (by omega))⟩
          case measure => simp [intOf]; omega
      · have hmod : m % 5 = 3 := hj
        clear hj
        rcases (Nat.lt_or_ge 0 us.length) with hpl | hpl
        · have HWH := Lib.hid hwh
          clear hwh
          have hS : demS us vs ts = (LR.mk (dX us vs) (dY us vs) (ts.set (lastF us).toNat false) 0) := by unfold demS; rw [if_neg (by simpa using HCK.out), if_neg (by omega)]
          have hfc : lruChk (LR.mk (dX us vs) (dY us vs) (ts.set (lastF us).toNat false) 0).xs (LR.mk (dX us vs) (dY us vs) (ts.set (lastF us).toNat false) 0).ys (LR.mk (dX us vs) (dY us vs) (ts.set (lastF us).toNat false) 0).rs = 0 ∧ (LR.mk (dX us vs) (dY us vs) (ts.set (lastF us).toNat false) 0).rs.length = 16 ∧ (LR.mk (dX us vs) (dY us vs) (ts.set (lastF us).toNat false) 0).xs.length + (LR.mk (dX us vs) (dY us vs) (ts.set (lastF us).toNat false) 0).ys.length = us.length + vs.length ∧ (LR.mk (dX us vs) (dY us vs) (ts.set (lastF us).toNat false) 0).e = 0 := ⟨chk_dem (valid_of_chk HCK.out) hpl _, by simpa using HLT.out, dem_size hpl, rfl⟩
          obtain ⟨⟨us', vs', ts', z'⟩, hR⟩ : ∃ R : LR, (LR.mk (dX us vs) (dY us vs) (ts.set (lastF us).toNat false) 0) = R := ⟨_, rfl⟩
          rw [hR] at hS hfc
          obtain ⟨hck', hlt', hsz', hz'⟩ := hfc
          dsimp only at hck' hlt' hsz' hz'
          subst hz'
          have HSS := Lib.hid hS; have HCK2 := Lib.hid hck'; have HLT2 := Lib.hid hlt'
          have hne : ((us'.length : Int) + vs'.length != (us.length : Int) + vs.length) = false := by simp; omega
          have lz1 : us'.length ≤ 300 := by have h1 := (valid_of_chk hck').len; have h2 := (valid_of_chk hck').hi; omega
          have lz2 : vs'.length ≤ 300 := by have h1 := (valid_of_chk hck').len; have h2 := (valid_of_chk hck').hi; omega
          clear hS hck' hlt' hsz' hR
          go_wp2_with fail
          refine (Mod_any _ _ _ (by omega) (by omega)).mono ?_
          rw [HMM.out]
          rintro e w' ⟨rfl, rfl⟩
          go_wp2_with fail
          refine (size_any _ _ _ _ _ _ _ _ _ _ (by omega) (by omega)).mono ?_
          rintro e wA ⟨rfl, hA⟩
          have zA : wr.heap.size ≤ wA.heap.size := hA.size
          have bA := BK.out.below_ hA BK.out.lt
          have a0 := (bA.cell_ 0).trans (by simp : _ = some (.slice A1 us.length c1))
          have a1 := (bA.cell_ 1).trans (by simp : _ = some (.slice A2 vs.length c2))
          have a2 := (bA.cell_ 2).trans (by simp : _ = some (.slice A3 ts.length c3))
          have BA := Lib.hid bA
          clear k0 k1 k2 bA
          go_wp2_with fail
          refine (Where_S _ _ _ _ _ _ _ _ _ _ (M.out.ext hA) f).mono ?_
          rw [HCD.out, if_neg (by simp), HWH.out]
          rintro e wB ⟨rfl, hB⟩
          have zB : wA.heap.size ≤ wB.heap.size := hB.size
          have bB := BA.out.below_ hB BA.out.lt
          have e0 := (bB.cell_ 0).trans (by simp : _ = some (.slice A1 us.length c1))
          have e1 := (bB.cell_ 1).trans (by simp : _ = some (.slice A2 vs.length c2))
          have e2 := (bB.cell_ 2).trans (by simp : _ = some (.slice A3 ts.length c3))
          have hLB : w1.heap.size < wB.heap.size := bB.lt
          have hAB : Below wr.heap.size wr wB := hA.trans (hB.mono zA)
          have BB := Lib.hid bB; have HAB := Lib.hid hAB
          clear a0 a1 a2 bB hA hB hAB
          obtain ⟨WX, hWX⟩ : ∃ WX, WX = wB.alloc (.cells #[.slice none 0 0, .slice none 0 0, .slice none 0 0] 25) := ⟨_, rfl⟩
          have bWX : Below wB.heap.size wB WX := by rw [hWX]; exact (by repeat' (first | with_reducible exact Below.refl _ _ | with_reducible assumption | with_reducible apply Below.drew | with_reducible apply below_drewN | with_reducible apply Below.alloc | with_reducible apply Below.setCell | (with_reducible refine Below.trans ?_ (Below.mono (by assumption) ?_)) | (simp; done) | (simp; omega) | omega | with_reducible apply le_size_alloc | with_reducible apply le_size_drewN | with_reducible apply le_size_drew | with_reducible apply le_size_setCell | refine Nat.le_trans ?_ (Below.size (by assumption))))
          have szX : WX.heap.size = wB.heap.size + 1 := by rw [hWX]; simp
          have BX : Hid (Blk WX wB.heap.size 25 #[.slice none 0 0, .slice none 0 0, .slice none 0 0]) := by rw [hWX]; exact Blk.new_ rfl rfl
          have BLX := Lib.hid (BB.out.below_ bWX hLB)
          have hWb : Below wr.heap.size wr WX := HAB.out.trans (bWX.mono (by omega))
          have MX := Lib.hid (M.out.ext hWb)
          have HWb := Lib.hid hWb
          clear bWX hWb
          go_wp2_with fail
          rw [← hWX]
          clear hWX e0 e1 e2
          refine (Demote_S _ _ _ _ _ _ _ _ _ _ MX.out).mono ?_
          unfold LPost3
          rw [HSS.out]
          rintro e w5 ⟨B1, b1, B2, b2, B3, b3, rfl, m5, t5, h5⟩
          dsimp only at m5 ⊢
          have z5 : WX.heap.size ≤ w5.heap.size := h5.size
          have x5 := BX.out.below_ h5 BX.out.lt
          have l5 := BLX.out.below_ h5 BLX.out.lt
          have i0 := (x5.cell_ 0).trans (by simp : _ = some (.slice none 0 0))
          have i1 := (x5.cell_ 1).trans (by simp : _ = some (.slice none 0 0))
          have i2 := (x5.cell_ 2).trans (by simp : _ = some (.slice none 0 0))
          have i3 := x5.frozen_ 0; have i4 := x5.frozen_ 1; have i5 := x5.frozen_ 2
          have nXL : ¬ wB.heap.size = w1.heap.size := by omega
          have nXL' : ¬ w1.heap.size = wB.heap.size := by omega
          obtain ⟨W6, hW6⟩ : ∃ W6, W6 = ((w5.setCell ⟨wB.heap.size, 0, none⟩ (.slice B1 us'.length b1)).setCell ⟨wB.heap.size, 1, none⟩ (.slice B2 vs'.length b2)).setCell ⟨wB.heap.size, 2, none⟩ (.slice B3 ts'.length b3) := ⟨_, rfl⟩
          have M6 : Hid (InMem W6 B1 B2 B3 us' vs' ts') := by rw [hW6]; exact ((m5.far_ t5 (by omega) _ _).far_ t5 (by omega) _ _).far_ t5 (by omega) _ _
          have X6 : Hid (Blk W6 wB.heap.size 25 #[.slice B1 us'.length b1, .slice B2 vs'.length b2, .slice B3 ts'.length b3]) := by
            rw [hW6]
            have := ((x5.set_ 0 (.slice B1 us'.length b1)).set_ 1 (.slice B2 vs'.length b2)).set_ 2 (.slice B3 ts'.length b3)
            show Blk _ _ _ _
            simpa using this
          have L6 : Hid (Blk W6 w1.heap.size 25 #[.slice A1 us.length c1, .slice A2 vs.length c2, .slice A3 ts.length c3]) := by
            rw [hW6]
            exact ((l5.far_ (by simp; omega) _).far_ (by simp; omega) _).far_ (by simp; omega) _
          have HB6 : Hid (Below wr.heap.size wr W6) := by
            show Below _ _ _
            rw [hW6]
            have b6 : Below wr.heap.size wr w5 := HWb.out.trans (h5.mono (by omega))
            exact ((b6.setCell (by show _ ≤ wB.heap.size; omega) _).setCell (by show _ ≤ wB.heap.size; omega) _).setCell (by show _ ≤ wB.heap.size; omega) _
          have sz6 : W6.heap.size = w5.heap.size := by rw [hW6]; simp [World.setCell]
          have T5 := Lib.hid t5
          clear x5 l5 m5 t5 h5
          go_wp2_with fail
          rw [← hW6]
          clear hW6 i0 i1 i2 i3 i4 i5
          refine (M6.out.check _ _ _).mono ?_
          rw [HCK2.out]
          rintro e w7 ⟨rfl, h7⟩
          have x7 := X6.out.below_ h7 X6.out.lt
          have i0 := (x7.cell_ 0).trans (by simp : _ = some (.slice B1 us'.length b1))
          have i1 := (x7.cell_ 1).trans (by simp : _ = some (.slice B2 vs'.length b2))
          have i2 := (x7.cell_ 2).trans (by simp : _ = some (.slice B3 ts'.length b3))
          have X7 := Lib.hid x7
          clear x7
          go_wp2_with fail
          refine (size_any _ _ _ _ _ _ _ _ _ _ (by omega) (by omega)).mono ?_
          rintro e w8 ⟨rfl, h8⟩
          have x8 := X7.out.below_ h8 X7.out.lt
          have h78 : Below W6.heap.size W6 w8 := h7.trans (h8.mono h7.size)
          have l8 := L6.out.below_ h78 L6.out.lt
          have z8 : W6.heap.size ≤ w8.heap.size := h78.size
          have j0 := (x8.cell_ 0).trans (by simp : _ = some (.slice B1 us'.length b1))
          have j1 := (x8.cell_ 1).trans (by simp : _ = some (.slice B2 vs'.length b2))
          have j2 := (x8.cell_ 2).trans (by simp : _ = some (.slice B3 ts'.length b3))
          have k0 := (l8.cell_ 0).trans (by simp : _ = some (.slice A1 us.length c1))
          have k1 := (l8.cell_ 1).trans (by simp : _ = some (.slice A2 vs.length c2))
          have k2 := (l8.cell_ 2).trans (by simp : _ = some (.slice A3 ts.length c3))
          have k3 := l8.frozen_ 0; have k4 := l8.frozen_ 1; have k5 := l8.frozen_ 2
          have L8 := Lib.hid l8; have H78 := Lib.hid h78
          clear x8 l8 h78 h7 h8 i0 i1 i2
          go_wp2
          go_roundw
          case rel =>
            have m8 := M6.out.ext H78.out
            refine ⟨k + 1, by omega, by omega, by go_num, B1, b1, B2, b2, B3, b3, us', vs', ts', ?_, ((m8.far_ T5.out (by omega) _ _).far_ T5.out (by omega) _ _).far_ T5.out (by omega) _ _, HCK2, HLT2, ?_⟩
            · have := ((L8.out.set_ 0 (.slice B1 us'.length b1)).set_ 1 (.slice B2 vs'.length b2)).set_ 2 (.slice B3 ts'.length b3)
              simpa using this
            · have hb9 : Below w.heap.size w w8 := (hbw.trans (HB6.out.mono (by omega))).trans (H78.out.mono (by have := HB6.out.size; omega))
              exact ((hb9.setCell (by show _ ≤ w1.heap.size; omega) _).setCell (by show _ ≤ w1.heap.size; omega) _).setCell (by show _ ≤ w1.heap.size; omega) _
          case measure => simp [intOf]; omega
        · have HWH := Lib.hid hwh
          have hle0 : us.length ≤ 0 := by omega
          have hd0 : decide ((0 : Int) < us.length) = false := decide_eq_false (by omega)
          clear hwh
          have hS : demS us vs ts = LR.bad 6 := by unfold demS; rw [if_neg (by simpa using HCK.out), if_pos (by omega)]
          have HSS := Lib.hid hS
          clear hS
          go_wp2_with fail
          refine (Mod_any _ _ _ (by omega) (by omega)).mono ?_
          rw [HMM.out]
          rintro e w' ⟨rfl, rfl⟩
          go_wp2_with fail
          refine (size_any _ _ _ _ _ _ _ _ _ _ (by omega) (by omega)).mono ?_
          rintro e wA ⟨rfl, hA⟩
          have zA : wr.heap.size ≤ wA.heap.size := hA.size
          have bA := BK.out.below_ hA BK.out.lt
          have a0 := (bA.cell_ 0).trans (by simp : _ = some (.slice A1 us.length c1))
          have a1 := (bA.cell_ 1).trans (by simp : _ = some (.slice A2 vs.length c2))
          have a2 := (bA.cell_ 2).trans (by simp : _ = some (.slice A3 ts.length c3))
          have BA := Lib.hid bA
          clear k0 k1 k2 bA
          go_wp2_with fail
          refine (Where_S _ _ _ _ _ _ _ _ _ _ (M.out.ext hA) f).mono ?_
          rw [HCD.out, if_neg (by simp), HWH.out]
          rintro e wB ⟨rfl, hB⟩
          have zB : wA.heap.size ≤ wB.heap.size := hB.size
          have bB := BA.out.below_ hB BA.out.lt
          have e0 := (bB.cell_ 0).trans (by simp : _ = some (.slice A1 us.length c1))
          have e1 := (bB.cell_ 1).trans (by simp : _ = some (.slice A2 vs.length c2))
          have e2 := (bB.cell_ 2).trans (by simp : _ = some (.slice A3 ts.length c3))
          have hLB : w1.heap.size < wB.heap.size := bB.lt
          have hAB : Below wr.heap.size wr wB := hA.trans (hB.mono zA)
          have BB := Lib.hid bB; have HAB := Lib.hid hAB
          clear a0 a1 a2 bB hA hB hAB
          obtain ⟨WX, hWX⟩ : ∃ WX, WX = wB.alloc (.cells #[.slice none 0 0, .slice none 0 0, .slice none 0 0] 25) := ⟨_, rfl⟩
          have bWX : Below wB.heap.size wB WX := by rw [hWX]; exact (by repeat' (first | with_reducible exact Below.refl _ _ | with_reducible assumption | with_reducible apply Below.drew | with_reducible apply below_drewN | with_reducible apply Below.alloc | with_reducible apply Below.setCell | (with_reducible refine Below.trans ?_ (Below.mono (by assumption) ?_)) | (simp; done) | (simp; omega) | omega | with_reducible apply le_size_alloc | with_reducible apply le_size_drewN | with_reducible apply le_size_drew | with_reducible apply le_size_setCell | refine Nat.le_trans ?_ (Below.size (by assumption))))
          have szX : WX.heap.size = wB.heap.size + 1 := by rw [hWX]; simp
          have BX : Hid (Blk WX wB.heap.size 25 #[.slice none 0 0, .slice none 0 0, .slice none 0 0]) := by rw [hWX]; exact Blk.new_ rfl rfl
          have BLX := Lib.hid (BB.out.below_ bWX hLB)
          have hWb : Below wr.heap.size wr WX := HAB.out.trans (bWX.mono (by omega))
          have MX := Lib.hid (M.out.ext hWb)
          have HWb := Lib.hid hWb
          clear bWX hWb
          go_wp2_with fail
          rw [← hWX]
          clear hWX e0 e1 e2
          refine (Demote_S _ _ _ _ _ _ _ _ _ _ MX.out).mono ?_
          unfold LPost3
          rw [HSS.out]
          rintro e w5 ⟨B1, b1, B2, b2, B3, b3, rfl, _, _, h5⟩
          dsimp only [LR.bad]
          simp only [List.length_nil]
          have x5 := BX.out.below_ h5 BX.out.lt
          have l5 := BLX.out.below_ h5 BLX.out.lt
          have i0 := (x5.cell_ 0).trans (by simp : _ = some (.slice none 0 0))
          have i1 := (x5.cell_ 1).trans (by simp : _ = some (.slice none 0 0))
          have i2 := (x5.cell_ 2).trans (by simp : _ = some (.slice none 0 0))
          have i3 := x5.frozen_ 0; have i4 := x5.frozen_ 1; have i5 := x5.frozen_ 2
          have k0 := (l5.cell_ 0).trans (by simp : _ = some (.slice A1 us.length c1))
          have k1 := (l5.cell_ 1).trans (by simp : _ = some (.slice A2 vs.length c2))
          have nXL : ¬ wB.heap.size = w1.heap.size := by omega
          have nXL' : ¬ w1.heap.size = wB.heap.size := by omega
          have H5 := Lib.hid h5
          clear x5 l5 h5
          go_wp2
          go_roundw
          case rel =>
            have b6 : Below wr.heap.size wr w5 := HWb.out.trans (H5.out.mono (by omega))
            have b7 : Below wr.heap.size wr (((w5.setCell ⟨wB.heap.size, 0, none⟩ (.slice B1 0 b1)).setCell ⟨wB.heap.size, 1, none⟩ (.slice B2 0 b2)).setCell ⟨wB.heap.size, 2, none⟩ (.slice B3 0 b3)) := ((b6.setCell (by show _ ≤ wB.heap.size; omega) _).setCell (by show _ ≤ wB.heap.size; omega) _).setCell (by show _ ≤ wB.heap.size; omega) _
            exact ⟨k + 1, by omega, by omega, by go_num, A1, c1, A2, c2, A3, c3, us, vs, ts, BK.out.below_ b7 BK.out.lt, M.out.ext b7, HCK, HLT, hbw.trans (b7.mono (by omega))⟩
          case measure => simp [intOf]; omega
      · have hmod : m % 5 = 4 := hj
        clear hj
        rcases (Nat.lt_or_ge 0 vs.length) with hpl | hpl
        · have HWH := Lib.hid hwh
          clear hwh
          have hS : proS us vs ts = (LR.mk (pX us vs) (pY us vs) (ts.set (lastF vs).toNat false) 0) := by unfold proS; rw [if_neg (by simpa using HCK.out), if_neg (by omega)]
          have hfc : lruChk (LR.mk (pX us vs) (pY us vs) (ts.set (lastF vs).toNat false) 0).xs (LR.mk (pX us vs) (pY us vs) (ts.set (lastF vs).toNat false) 0).ys (LR.mk (pX us vs) (pY us vs) (ts.set (lastF vs).toNat false) 0).rs = 0 ∧ (LR.mk (pX us vs) (pY us vs) (ts.set (lastF vs).toNat false) 0).rs.length = 16 ∧ (LR.mk (pX us vs) (pY us vs) (ts.set (lastF vs).toNat false) 0).xs.length + (LR.mk (pX us vs) (pY us vs) (ts.set (lastF vs).toNat false) 0).ys.length = us.length + vs.length ∧ (LR.mk (pX us vs) (pY us vs) (ts.set (lastF vs).toNat false) 0).e = 0 := ⟨chk_pro (valid_of_chk HCK.out) hpl _, by simpa using HLT.out, pro_size hpl, rfl⟩
          obtain ⟨⟨us', vs', ts', z'⟩, hR⟩ : ∃ R : LR, (LR.mk (pX us vs) (pY us vs) (ts.set (lastF vs).toNat false) 0) = R := ⟨_, rfl⟩
          rw [hR] at hS hfc
          obtain ⟨hck', hlt', hsz', hz'⟩ := hfc
          dsimp only at hck' hlt' hsz' hz'
          subst hz'
          have HSS := Lib.hid hS; have HCK2 := Lib.hid hck'; have HLT2 := Lib.hid hlt'
          have hne : ((us'.length : Int) + vs'.length != (us.length : Int) + vs.length) = false := by simp; omega
          have lz1 : us'.length ≤ 300 := by have h1 := (valid_of_chk hck').len; have h2 := (valid_of_chk hck').hi; omega
          have lz2 : vs'.length ≤ 300 := by have h1 := (valid_of_chk hck').len; have h2 := (valid_of_chk hck').hi; omega
          clear hS hck' hlt' hsz' hR
          go_wp2_with fail
          refine (Mod_any _ _ _ (by omega) (by omega)).mono ?_
          rw [HMM.out]
          rintro e w' ⟨rfl, rfl⟩
          go_wp2_with fail
          refine (size_any _ _ _ _ _ _ _ _ _ _ (by omega) (by omega)).mono ?_
          rintro e wA ⟨rfl, hA⟩
          have zA : wr.heap.size ≤ wA.heap.size := hA.size
          have bA := BK.out.below_ hA BK.out.lt
          have a0 := (bA.cell_ 0).trans (by simp : _ = some (.slice A1 us.length c1))
          have a1 := (bA.cell_ 1).trans (by simp : _ = some (.slice A2 vs.length c2))
          have a2 := (bA.cell_ 2).trans (by simp : _ = some (.slice A3 ts.length c3))
          have BA := Lib.hid bA
          clear k0 k1 k2 bA
          go_wp2_with fail
          refine (Where_S _ _ _ _ _ _ _ _ _ _ (M.out.ext hA) f).mono ?_
          rw [HCD.out, if_neg (by simp), HWH.out]
          rintro e wB ⟨rfl, hB⟩
          have zB : wA.heap.size ≤ wB.heap.size := hB.size
          have bB := BA.out.below_ hB BA.out.lt
          have e0 := (bB.cell_ 0).trans (by simp : _ = some (.slice A1 us.length c1))
          have e1 := (bB.cell_ 1).trans (by simp : _ = some (.slice A2 vs.length c2))
          have e2 := (bB.cell_ 2).trans (by simp : _ = some (.slice A3 ts.length c3))
          have hLB : w1.heap.size < wB.heap.size := bB.lt
          have hAB : Below wr.heap.size wr wB := hA.trans (hB.mono zA)
          have BB := Lib.hid bB; have HAB := Lib.hid hAB
          clear a0 a1 a2 bB hA hB hAB
          obtain ⟨WX, hWX⟩ : ∃ WX, WX = wB.alloc (.cells #[.slice none 0 0, .slice none 0 0, .slice none 0 0] 25) := ⟨_, rfl⟩
          have bWX : Below wB.heap.size wB WX := by rw [hWX]; exact (by repeat' (first | with_reducible exact Below.refl _ _ | with_reducible assumption | with_reducible apply Below.drew | with_reducible apply below_drewN | with_reducible apply Below.alloc | with_reducible apply Below.setCell | (with_reducible refine Below.trans ?_ (Below.mono (by assumption) ?_)) | (simp; done) | (simp; omega) | omega | with_reducible apply le_size_alloc | with_reducible apply le_size_drewN | with_reducible apply le_size_drew | with_reducible apply le_size_setCell | refine Nat.le_trans ?_ (Below.size (by assumption))))
          have szX : WX.heap.size = wB.heap.size + 1 := by rw [hWX]; simp
          have BX : Hid (Blk WX wB.heap.size 25 #[.slice none 0 0, .slice none 0 0, .slice none 0 0]) := by rw [hWX]; exact Blk.new_ rfl rfl
          have BLX := Lib.hid (BB.out.below_ bWX hLB)
          have hWb : Below wr.heap.size wr WX := HAB.out.trans (bWX.mono (by omega))
          have MX := Lib.hid (M.out.ext hWb)
          have HWb := Lib.hid hWb
          clear bWX hWb
          go_wp2_with fail
          rw [← hWX]
          clear hWX e0 e1 e2
          refine (Promote_S _ _ _ _ _ _ _ _ _ _ MX.out).mono ?_
          unfold LPost3
          rw [HSS.out]
          rintro e w5 ⟨B1, b1, B2, b2, B3, b3, rfl, m5, t5, h5⟩
          dsimp only at m5 ⊢
          have z5 : WX.heap.size ≤ w5.heap.size := h5.size
          have x5 := BX.out.below_ h5 BX.out.lt
          have l5 := BLX.out.below_ h5 BLX.out.lt
          have i0 := (x5.cell_ 0).trans (by simp : _ = some (.slice none 0 0))
          have i1 := (x5.cell_ 1).trans (by simp : _ = some (.slice none 0 0))
          have i2 := (x5.cell_ 2).trans (by simp : _ = some (.slice none 0 0))
          have i3 := x5.frozen_ 0; have i4 := x5.frozen_ 1; have i5 := x5.frozen_ 2
          have nXL : ¬ wB.heap.size = w1.heap.size := by omega
          have nXL' : ¬ w1.heap.size = wB.heap.size := by omega
          obtain ⟨W6, hW6⟩ : ∃ W6, W6 = ((w5.setCell ⟨wB.heap.size, 0, none⟩ (.slice B1 us'.length b1)).setCell ⟨wB.heap.size, 1, none⟩ (.slice B2 vs'.length b2)).setCell ⟨wB.heap.size, 2, none⟩ (.slice B3 ts'.length b3) := ⟨_, rfl⟩
          have M6 : Hid (InMem W6 B1 B2 B3 us' vs' ts') := by rw [hW6]; exact ((m5.far_ t5 (by omega) _ _).far_ t5 (by omega) _ _).far_ t5 (by omega) _ _
          have X6 : Hid (Blk W6 wB.heap.size 25 #[.slice B1 us'.length b1, .slice B2 vs'.length b2, .slice B3 ts'.length b3]) := by
            rw [hW6]
            have := ((x5.set_ 0 (.slice B1 us'.length b1)).set_ 1 (.slice B2 vs'.length b2)).set_ 2 (.slice B3 ts'.length b3)
            show Blk _ _ _ _
            simpa using this
          have L6 : Hid (Blk W6 w1.heap.size 25 #[.slice A1 us.length c1, .slice A2 vs.length c2, .slice A3 ts.length c3]) := by
            rw [hW6]
            exact ((l5.far_ (by simp; omega) _).far_ (by simp; omega) _).far_ (by simp; omega) _
          have HB6 : Hid (Below wr.heap.size wr W6) := by
            show Below _ _ _
            rw [hW6]
            have b6 : Below wr.heap.size wr w5 := HWb.out.trans (h5.mono (by omega))
            exact ((b6.setCell (by show _ ≤ wB.heap.size; omega) _).setCell (by show _ ≤ wB.heap.size; omega) _).setCell (by show _ ≤ wB.heap.size; omega) _
          have sz6 : W6.heap.size = w5.heap.size := by rw [hW6]; simp [World.setCell]
          have T5 := Lib.hid t5
          clear x5 l5 m5 t5 h5
          go_wp2_with fail
          rw [← hW6]
          clear hW6 i0 i1 i2 i3 i4 i5
          refine (M6.out.check _ _ _).mono ?_
          rw [HCK2.out]
          rintro e w7 ⟨rfl, h7⟩
          have x7 := X6.out.below_ h7 X6.out.lt
          have i0 := (x7.cell_ 0).trans (by simp : _ = some (.slice B1 us'.length b1))
          have i1 := (x7.cell_ 1).trans (by simp : _ = some (.slice B2 vs'.length b2))
          have i2 := (x7.cell_ 2).trans (by simp : _ = some (.slice B3 ts'.length b3))
          have X7 := Lib.hid x7
          clear x7
          go_wp2_with fail
          refine (size_any _ _ _ _ _ _ _ _ _ _ (by omega) (by omega)).mono ?_
          rintro e w8 ⟨rfl, h8⟩
          have x8 := X7.out.below_ h8 X7.out.lt
          have h78 : Below W6.heap.size W6 w8 := h7.trans (h8.mono h7.size)
          have l8 := L6.out.below_ h78 L6.out.lt
          have z8 : W6.heap.size ≤ w8.heap.size := h78.size
          have j0 := (x8.cell_ 0).trans (by simp : _ = some (.slice B1 us'.length b1))
          have j1 := (x8.cell_ 1).trans (by simp : _ = some (.slice B2 vs'.length b2))
          have j2 := (x8.cell_ 2).trans (by simp : _ = some (.slice B3 ts'.length b3))
          have k0 := (l8.cell_ 0).trans (by simp : _ = some (.slice A1 us.length c1))
          have k1 := (l8.cell_ 1).trans (by simp : _ = some (.slice A2 vs.length c2))
          have k2 := (l8.cell_ 2).trans (by simp : _ = some (.slice A3 ts.length c3))
          have k3 := l8.frozen_ 0; have k4 := l8.frozen_ 1; have k5 := l8.frozen_ 2
          have L8 := Lib.hid l8; have H78 := Lib.hid h78
          clear x8 l8 h78 h7 h8 i0 i1 i2
          go_wp2
          go_roundw
          case rel =>
            have m8 := M6.out.ext H78.out
            refine ⟨k + 1, by omega, by omega, by go_num, B1, b1, B2, b2, B3, b3, us', vs', ts', ?_, ((m8.far_ T5.out (by omega) _ _).far_ T5.out (by omega) _ _).far_ T5.out (by omega) _ _, HCK2, HLT2, ?_⟩
            · have := ((L8.out.set_ 0 (.slice B1 us'.length b1)).set_ 1 (.slice B2 vs'.length b2)).set_ 2 (.slice B3 ts'.length b3)
              simpa using this
            · have hb9 : Below w.heap.size w w8 := (hbw.trans (HB6.out.mono (by omega))).trans (H78.out.mono (by have := HB6.out.size; omega))
              exact ((hb9.setCell (by show _ ≤ w1.heap.size; omega) _).setCell (by show _ ≤ w1.heap.size; omega) _).setCell (by show _ ≤ w1.heap.size; omega) _
          case measure => simp [intOf]; omega
        · have HWH := Lib.hid hwh
          have hle0 : vs.length ≤ 0 := by omega
          have hd0 : decide ((0 : Int) < vs.length) = false := decide_eq_false (by omega)
          clear hwh
          have hS : proS us vs ts = LR.bad 6 := by unfold proS; rw [if_neg (by simpa using HCK.out), if_pos (by omega)]
          have HSS := Lib.hid hS
          clear hS
          go_wp2_with fail
          refine (Mod_any _ _ _ (by omega) (by omega)).mono ?_
          rw [HMM.out]
          rintro e w' ⟨rfl, rfl⟩
          go_wp2_with fail
          refine (size_any _ _ _ _ _ _ _ _ _ _ (by omega) (by omega)).mono ?_
          rintro e wA ⟨rfl, hA⟩
          have zA : wr.heap.size ≤ wA.heap.size := hA.size
          have bA := BK.out.below_ hA BK.out.lt
          have a0 := (bA.cell_ 0).trans (by simp : _ = some (.slice A1 us.length c1))
          have a1 := (bA.cell_ 1).trans (by simp : _ = some (.slice A2 vs.length c2))
          have a2 := (bA.cell_ 2).trans (by simp : _ = some (.slice A3 ts.length c3))
          have BA := Lib.hid bA
          clear k0 k1 k2 bA
          go_wp2_with fail
          refine (Where_S _ _ _ _ _ _ _ _ _ _ (M.out.ext hA) f).mono ?_
          rw [HCD.out, if_neg (by simp), HWH.out]
          rintro e wB ⟨rfl, hB⟩
          have zB : wA.heap.size ≤ wB.heap.size := hB.size
          have bB := BA.out.below_ hB BA.out.lt
          have e0 := (bB.cell_ 0).trans (by simp : _ = some (.slice A1 us.length c1))
          have e1 := (bB.cell_ 1).trans (by simp : _ = some (.slice A2 vs.length c2))
          have e2 := (bB.cell_ 2).trans (by simp : _ = some (.slice A3 ts.length c3))
          have hLB : w1.heap.size < wB.heap.size := bB.lt
          have hAB : Below wr.heap.size wr wB := hA.trans (hB.mono zA)
          have BB := Lib.hid bB; have HAB := Lib.hid hAB
          clear a0 a1 a2 bB hA hB hAB
          obtain ⟨WX, hWX⟩ : ∃ WX, WX = wB.alloc (.cells #[.slice none 0 0, .slice none 0 0, .slice none 0 0] 25) := ⟨_, rfl⟩
          have bWX : Below wB.heap.size wB WX := by rw [hWX]; exact (by repeat' (first | with_reducible exact Below.refl _ _ | with_reducible assumption | with_reducible apply Below.drew | with_reducible apply below_drewN | with_reducible apply Below.alloc | with_reducible apply Below.setCell | (with_reducible refine Below.trans ?_ (Below.mono (by assumption) ?_)) | (simp; done) | (simp; omega) | omega | with_reducible apply le_size_alloc | with_reducible apply le_size_drewN | with_reducible apply le_size_drew | with_reducible apply le_size_setCell | refine Nat.le_trans ?_ (Below.size (by assumption))))
          have szX : WX.heap.size = wB.heap.size + 1 := by rw [hWX]; simp
          have BX : Hid (Blk WX wB.heap.size 25 #[.slice none 0 0, .slice none 0 0, .slice none 0 0]) := by rw [hWX]; exact Blk.new_ rfl rfl
          have BLX := Lib.hid (BB.out.below_ bWX hLB)
          have hWb : Below wr.heap.size wr WX := HAB.out.trans (bWX.mono (by omega))
          have MX := Lib.hid (M.out.ext hWb)
          have HWb := Lib.hid hWb
          clear bWX hWb
          go_wp2_with fail
          rw [← hWX]
          clear hWX e0 e1 e2
          refine (Promote_S _ _ _ _ _ _ _ _ _ _ MX.out).mono ?_
          unfold LPost3
          rw [HSS.out]
          rintro e w5 ⟨B1, b1, B2, b2, B3, b3, rfl, _, _, h5⟩
          dsimp only [LR.bad]
          simp only [List.length_nil]
          have x5 := BX.out.below_ h5 BX.out.lt
          have l5 := BLX.out.below_ h5 BLX.out.lt
          have i0 := (x5.cell_ 0).trans (by simp : _ = some (.slice none 0 0))
          have i1 := (x5.cell_ 1).trans (by simp : _ = some (.slice none 0 0))
          have i2 := (x5.cell_ 2).trans (by simp : _ = some (.slice none 0 0))
          have i3 := x5.frozen_ 0; have i4 := x5.frozen_ 1; have i5 := x5.frozen_ 2
          have k0 := (l5.cell_ 0).trans (by simp : _ = some (.slice A1 us.length c1))
          have k1 := (l5.cell_ 1).trans (by simp : _ = some (.slice A2 vs.length c2))
          have nXL : ¬ wB.heap.size = w1.heap.size := by omega
          have nXL' : ¬ w1.heap.size = wB.heap.size := by omega
          have H5 := Lib.hid h5
          clear x5 l5 h5
          go_wp2
          go_roundw
          case rel =>
            have b6 : Below wr.heap.size wr w5 := HWb.out.trans (H5.out.mono (by omega))
            have b7 : Below wr.heap.size wr (((w5.setCell ⟨wB.heap.size, 0, none⟩ (.slice B1 0 b1)).setCell ⟨wB.heap.size, 1, none⟩ (.slice B2 0 b2)).setCell ⟨wB.heap.size, 2, none⟩ (.slice B3 0 b3)) := ((b6.setCell (by show _ ≤ wB.heap.size; omega) _).setCell (by show _ ≤ wB.heap.size; omega) _).setCell (by show _ ≤ wB.heap.size; omega) _
            exact ⟨k + 1, by omega, by omega, by go_num, A1, c1, A2, c2, A3, c3, us, vs, ts, BK.out.below_ b7 BK.out.lt, M.out.ext b7, HCK, HLT, hbw.trans (b7.mono (by omega))⟩
          case measure => simp [intOf]; omega
    · clear k0 k1 k2
      by_cases hks : k < steps.length
      · obtain rfl : k = 30 := by omega
        have d1 : decide ((30 : Int) < steps.length) = true := by simp; omega
        go_wp2_with fail
        refine (awake_any _).mono ?_
        rintro e w5 ⟨rfl, h5⟩
        go_wp2
        go_ret
        exact ⟨rfl, (by repeat' (first | with_reducible exact Below.refl _ _ | with_reducible assumption | with_reducible apply Below.drew | with_reducible apply below_drewN | with_reducible apply Below.alloc | with_reducible apply Below.setCell | (with_reducible refine Below.trans ?_ (Below.mono (by assumption) ?_)) | (simp; done) | (simp; omega) | omega | with_reducible apply le_size_alloc | with_reducible apply le_size_drewN | with_reducible apply le_size_drew | with_reducible apply le_size_setCell | refine Nat.le_trans ?_ (Below.size (by assumption))))⟩
      · have d1 : decide ((k : Int) < steps.length) = false := by simp; omega
        go_wp2_with fail
        refine (awake_any _).mono ?_
        rintro e w5 ⟨rfl, h5⟩
        go_wp2
        go_ret
        exact ⟨rfl, (by repeat' (first | with_reducible exact Below.refl _ _ | with_reducible assumption | with_reducible apply Below.drew | with_reducible apply below_drewN | with_reducible apply Below.alloc | with_reducible apply Below.setCell | (with_reducible refine Below.trans ?_ (Below.mono (by assumption) ?_)) | (simp; done) | (simp; omega) | omega | with_reducible apply le_size_alloc | with_reducible apply le_size_drewN | with_reducible apply le_size_drew | with_reducible apply le_size_setCell | refine Nat.le_trans ?_ (Below.size (by assumption))))⟩

set_option maxRecDepth 100000 in
theorem lruSteps_lifted (os : Os) (started : os.Started) (H : Type) (enc : TypeId × Value → H) :
    ReturnsInHanded {} Try.checked os 8 .any (Rows.lruStepsSpec.pre6 enc Try.prog Try.f8 Rows.lruStepsRow.domain false) (Rows.lruStepsSpec.post enc Try.prog Try.f8 false true false false) := by
  refine returnsInHanded_of_change (C := Try.checked) own started (by kernel_rfl) Try.func8
    (ChangeSpec.witness6 (enc := enc) (C := Try.checked) false ⟨#[], #[.slice none 0 0, .slice none 0 0], []⟩ 8 (by kernel_rfl) (by kernel_rfl) (by kernel_rfl) (by kernel_rfl)) ?_
  intro W base args ds gs before hval0 hW hcnd _
  have hval : ∀ (j : Nat) t v, Try.f8.params[j]? = some t → args[j]? = some v → Value.okWide Try.prog W .any base t v := hval0
  have hW' := hW
  obtain ⟨p, q, hA0, hV, rfl, hfz, hnd⟩ := hW
  have hA : DataW.TrodAll enc Try.prog W 0 (fun _ => true) true Try.f8.params.toList args.toList ds p := hA0
  rw [Try.params8] at hA hval
  obtain ⟨v0, vs0, d0, ds0, p0, q0, hargs, rfl, rfl, h0, r0⟩ := trodAll_cons hA
  obtain ⟨v1, vs1, d1, ds1, p1, q1, rfl, rfl, rfl, h1, r1⟩ := trodAll_cons r0
  obtain ⟨rfl, rfl, rfl⟩ := trodAll_nil r1
  obtain rfl : args = #[v0, v1] := by cases args; simp_all
  obtain ⟨rfl, rfl⟩ := trodVars_none hV
  obtain ⟨A0, k0, a0, rfl, s0, w0, l0⟩ := open_slI Try.underlying22 Try.underlying3 (by kernel_rfl) (hval 0 22 v0 rfl rfl) h0
  obtain ⟨A1, k1, a1, rfl, s1, w1, l1⟩ := open_slI Try.underlying22 Try.underlying3 (by kernel_rfl) (hval 1 22 v1 rfl rfl) h1
  clear hA0 hval0
  refine (lruSteps_walk A0 k0 a0 A1 k1 a1 W s0 w0 l0 s1 w1 l1).mono fun e W' ⟨he, hb⟩ => ⟨_, he, ?_⟩
  exact law_post laidOut (s := Rows.lruStepsSpec) (B := 4) rfl rfl Try.underlying4 (by decide +kernel) hW' rfl hb

theorem lruSteps_holds : Rows.LruStepsSaid :=
  OpenClaim.holds_of_wide 8 Try.f8 rfl rfl rfl rfl rfl rfl rfl ⟨rfl, rfl, rfl, rfl, rfl⟩ rfl rfl rfl rfl rfl (by kernel_rfl) Try.func8 (by kernel_rfl)
    (of_decide_eq_true (by kernel_rfl)) (by unfold Func.isWrapper; first | (rw [if_pos (by decide +kernel)]; kernel_rfl) | (rw [if_neg (by decide +kernel)]; exact ⟨rfl, rfl⟩))
    (fun os started H enc _ => lruSteps_lifted os started H enc)

end Go.Proofs.Ytjilfijpepbfeaa
