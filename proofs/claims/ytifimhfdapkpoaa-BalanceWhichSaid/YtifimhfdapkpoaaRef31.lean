/- Contracts of headgateref31: lacks, Which, Lacks, Steps. Written by gen_ref31.py. -/
import Derived.Test.YtifimhfdapkpoaaBalT
import Derived.Test.YtifimhfdapkpoaaRef4
namespace Go.Proofs.Ytifimhfdapkpoaa
open Go.RowKit Go.Maps

set_option maxHeartbeats 400000 in
theorem Rlacks_any (Aa Ai : Option Addr) (vr : Value) (na ca ni ci : Nat) (w : World) (h : na + ni ≤ 256) :
    Calls Try.prog 46 #[.agg #[.slice Aa na ca, .slice Ai ni ci, vr]] w fun e w' =>
      e = .returned (.int .i64 (max 0 (tgt (na + ni) - ni))) ∧ Below w.heap.size w w' := by
  obtain ⟨t1, t2⟩ := tgt_bd (na + ni) (by omega) (by omega)
  go_enter Try.func46, Try.ntmps46
  go_wp2
  go_quiet ((go_at_call 36; exact quiet_l (reftarget_any _ _ (by omega) (by omega))))
  go_wp2
  all_goals
    go_ret
    exact ⟨ret_int (by omega), (by repeat' (first | with_reducible exact Below.refl _ _ | with_reducible assumption | with_reducible apply Below.drew | with_reducible apply below_drewN | with_reducible apply Below.alloc | with_reducible apply Below.setCell | (with_reducible refine Below.trans ?_ (Below.mono (by assumption) ?_)) | (simp; done) | (simp; omega) | omega | with_reducible apply le_size_alloc | with_reducible apply le_size_drewN | with_reducible apply le_size_drew | with_reducible apply le_size_setCell | refine Nat.le_trans ?_ (Below.size (by assumption))))⟩


set_option maxHeartbeats 400000 in
theorem RWhich_bad (Aa Ai Ar : Option Addr) (ca ci cr : Nat) (xs ys : List Int) (rs : List Bool) (z : Int) (w : World) (hm : InMem w Aa Ai Ar xs ys rs) (hc : lruChk xs ys rs = z) (hz : z ≠ 0) (_hl : ys.length ≤ 1000) :
    Calls Try.prog 24 #[.agg #[.slice Aa xs.length ca, .slice Ai ys.length ci, .slice Ar rs.length cr]] w fun e w' => e = .returned (.tuple #[.int .i64 0, .int .i64 z]) ∧ Below w.heap.size w w' := by
  have HM := Lib.hid hm; have HC := Lib.hid hc
  have hne : (z != 0) = true := by simpa using hz
  clear hm hc hz
  go_enter Try.func24, Try.ntmps24
  go_wp2_with fail
  have hm1 := HM.out.ext (w' := (w.alloc (.cells #[.slice Aa xs.length ca, .slice Ai ys.length ci, .slice Ar rs.length cr] 33))) (by repeat' (first | with_reducible exact Below.refl _ _ | with_reducible assumption | with_reducible apply Below.drew | with_reducible apply below_drewN | with_reducible apply Below.alloc | with_reducible apply Below.setCell | (with_reducible refine Below.trans ?_ (Below.mono (by assumption) ?_)) | (simp; done) | (simp; omega) | omega | with_reducible apply le_size_alloc | with_reducible apply le_size_drewN | with_reducible apply le_size_drew | with_reducible apply le_size_setCell | refine Nat.le_trans ?_ (Below.size (by assumption))))
  refine (RCheck_any _ _ _ _ _ _ _ _ _ _ hm1).mono ?_
  rw [HC.out]
  rintro e w1 ⟨rfl, hb1⟩
  have p0 : w1.cell? ⟨w.heap.size, 0, none⟩ = some (.slice Aa xs.length ca) := cell_keep hb1 (by simp) (by simp)
  have p1 : w1.cell? ⟨w.heap.size, 1, none⟩ = some (.slice Ai ys.length ci) := cell_keep hb1 (by simp) (by simp)
  have p2 : w1.cell? ⟨w.heap.size, 2, none⟩ = some (.slice Ar rs.length cr) := cell_keep hb1 (by simp) (by simp)
  go_wp2
  go_ret2
  exact ⟨rfl, (by repeat' (first | with_reducible exact Below.refl _ _ | with_reducible assumption | with_reducible apply Below.drew | with_reducible apply below_drewN | with_reducible apply Below.alloc | with_reducible apply Below.setCell | (with_reducible refine Below.trans ?_ (Below.mono (by assumption) ?_)) | (simp; done) | (simp; omega) | omega | with_reducible apply le_size_alloc | with_reducible apply le_size_drewN | with_reducible apply le_size_drew | with_reducible apply le_size_setCell | refine Nat.le_trans ?_ (Below.size (by assumption))))⟩

set_option maxHeartbeats 400000 in
theorem RLacks_bad (Aa Ai Ar : Option Addr) (ca ci cr : Nat) (xs ys : List Int) (rs : List Bool) (z : Int) (w : World) (hm : InMem w Aa Ai Ar xs ys rs) (hc : lruChk xs ys rs = z) (hz : z ≠ 0) (_hl : ys.length ≤ 1000) :
    Calls Try.prog 26 #[.agg #[.slice Aa xs.length ca, .slice Ai ys.length ci, .slice Ar rs.length cr]] w fun e w' => e = .returned (.tuple #[.int .i64 0, .int .i64 z]) ∧ Below w.heap.size w w' := by
  have HM := Lib.hid hm; have HC := Lib.hid hc
  have hne : (z != 0) = true := by simpa using hz
  clear hm hc hz
  go_enter Try.func26, Try.ntmps26
  go_wp2_with fail
  have hm1 := HM.out.ext (w' := (w.alloc (.cells #[.slice Aa xs.length ca, .slice Ai ys.length ci, .slice Ar rs.length cr] 33))) (by repeat' (first | with_reducible exact Below.refl _ _ | with_reducible assumption | with_reducible apply Below.drew | with_reducible apply below_drewN | with_reducible apply Below.alloc | with_reducible apply Below.setCell | (with_reducible refine Below.trans ?_ (Below.mono (by assumption) ?_)) | (simp; done) | (simp; omega) | omega | with_reducible apply le_size_alloc | with_reducible apply le_size_drewN | with_reducible apply le_size_drew | with_reducible apply le_size_setCell | refine Nat.le_trans ?_ (Below.size (by assumption))))
  refine (RCheck_any _ _ _ _ _ _ _ _ _ _ hm1).mono ?_
  rw [HC.out]
  rintro e w1 ⟨rfl, hb1⟩
  have p0 : w1.cell? ⟨w.heap.size, 0, none⟩ = some (.slice Aa xs.length ca) := cell_keep hb1 (by simp) (by simp)
  have p1 : w1.cell? ⟨w.heap.size, 1, none⟩ = some (.slice Ai ys.length ci) := cell_keep hb1 (by simp) (by simp)
  have p2 : w1.cell? ⟨w.heap.size, 2, none⟩ = some (.slice Ar rs.length cr) := cell_keep hb1 (by simp) (by simp)
  go_wp2
  go_ret2
  exact ⟨rfl, (by repeat' (first | with_reducible exact Below.refl _ _ | with_reducible assumption | with_reducible apply Below.drew | with_reducible apply below_drewN | with_reducible apply Below.alloc | with_reducible apply Below.setCell | (with_reducible refine Below.trans ?_ (Below.mono (by assumption) ?_)) | (simp; done) | (simp; omega) | omega | with_reducible apply le_size_alloc | with_reducible apply le_size_drewN | with_reducible apply le_size_drew | with_reducible apply le_size_setCell | refine Nat.le_trans ?_ (Below.size (by assumption))))⟩

set_option maxHeartbeats 400000 in
theorem RSteps_bad (Aa Ai Ar : Option Addr) (ca ci cr : Nat) (xs ys : List Int) (rs : List Bool) (z : Int) (w : World) (hm : InMem w Aa Ai Ar xs ys rs) (hc : lruChk xs ys rs = z) (hz : z ≠ 0) (_hl : ys.length ≤ 1000) :
    Calls Try.prog 27 #[.agg #[.slice Aa xs.length ca, .slice Ai ys.length ci, .slice Ar rs.length cr]] w fun e w' => e = .returned (.tuple #[.int .i64 0, .int .i64 z]) ∧ Below w.heap.size w w' := by
  have HM := Lib.hid hm; have HC := Lib.hid hc
  have hne : (z != 0) = true := by simpa using hz
  clear hm hc hz
  go_enter Try.func27, Try.ntmps27
  go_wp2_with fail
  have hm1 := HM.out.ext (w' := (w.alloc (.cells #[.slice Aa xs.length ca, .slice Ai ys.length ci, .slice Ar rs.length cr] 33))) (by repeat' (first | with_reducible exact Below.refl _ _ | with_reducible assumption | with_reducible apply Below.drew | with_reducible apply below_drewN | with_reducible apply Below.alloc | with_reducible apply Below.setCell | (with_reducible refine Below.trans ?_ (Below.mono (by assumption) ?_)) | (simp; done) | (simp; omega) | omega | with_reducible apply le_size_alloc | with_reducible apply le_size_drewN | with_reducible apply le_size_drew | with_reducible apply le_size_setCell | refine Nat.le_trans ?_ (Below.size (by assumption))))
  refine (RCheck_any _ _ _ _ _ _ _ _ _ _ hm1).mono ?_
  rw [HC.out]
  rintro e w1 ⟨rfl, hb1⟩
  have p0 : w1.cell? ⟨w.heap.size, 0, none⟩ = some (.slice Aa xs.length ca) := cell_keep hb1 (by simp) (by simp)
  have p1 : w1.cell? ⟨w.heap.size, 1, none⟩ = some (.slice Ai ys.length ci) := cell_keep hb1 (by simp) (by simp)
  have p2 : w1.cell? ⟨w.heap.size, 2, none⟩ = some (.slice Ar rs.length cr) := cell_keep hb1 (by simp) (by simp)
  go_wp2
  go_ret2
  exact ⟨rfl, (by repeat' (first | with_reducible exact Below.refl _ _ | with_reducible assumption | with_reducible apply Below.drew | with_reducible apply below_drewN | with_reducible apply Below.alloc | with_reducible apply Below.setCell | (with_reducible refine Below.trans ?_ (Below.mono (by assumption) ?_)) | (simp; done) | (simp; omega) | omega | with_reducible apply le_size_alloc | with_reducible apply le_size_drewN | with_reducible apply le_size_drew | with_reducible apply le_size_setCell | refine Nat.le_trans ?_ (Below.size (by assumption))))⟩

set_option maxHeartbeats 400000 in
theorem RLacks_ok (Aa Ai Ar : Option Addr) (ca ci cr : Nat) (xs ys : List Int) (rs : List Bool) (w : World) (hm : InMem w Aa Ai Ar xs ys rs) (hc : lruChk xs ys rs = 0) :
    Calls Try.prog 26 #[.agg #[.slice Aa xs.length ca, .slice Ai ys.length ci, .slice Ar rs.length cr]] w fun e w' => e = .returned (.tuple #[.int .i64 (max 0 (tgt (xs.length + ys.length) - ys.length)), .int .i64 0]) ∧ Below w.heap.size w w' := by
  have hv := valid_of_chk hc
  have hlen := hv.len
  have hhi := hv.hi
  have HM := Lib.hid hm; have HC := Lib.hid hc
  clear hm hc hv
  go_enter Try.func26, Try.ntmps26
  go_wp2_with fail
  have hm1 := HM.out.ext (w' := (w.alloc (.cells #[.slice Aa xs.length ca, .slice Ai ys.length ci, .slice Ar rs.length cr] 33))) (by repeat' (first | with_reducible exact Below.refl _ _ | with_reducible assumption | with_reducible apply Below.drew | with_reducible apply below_drewN | with_reducible apply Below.alloc | with_reducible apply Below.setCell | (with_reducible refine Below.trans ?_ (Below.mono (by assumption) ?_)) | (simp; done) | (simp; omega) | omega | with_reducible apply le_size_alloc | with_reducible apply le_size_drewN | with_reducible apply le_size_drew | with_reducible apply le_size_setCell | refine Nat.le_trans ?_ (Below.size (by assumption))))
  refine (RCheck_any _ _ _ _ _ _ _ _ _ _ hm1).mono ?_
  rw [HC.out]
  rintro e w1 ⟨rfl, hb1⟩
  have p0 : w1.cell? ⟨w.heap.size, 0, none⟩ = some (.slice Aa xs.length ca) := cell_keep hb1 (by simp) (by simp)
  have p1 : w1.cell? ⟨w.heap.size, 1, none⟩ = some (.slice Ai ys.length ci) := cell_keep hb1 (by simp) (by simp)
  have p2 : w1.cell? ⟨w.heap.size, 2, none⟩ = some (.slice Ar rs.length cr) := cell_keep hb1 (by simp) (by simp)
  go_wp2_with fail
  refine (Rlacks_any _ _ _ _ _ _ _ _ (by omega)).mono ?_
  rintro e w2 ⟨rfl, hb2⟩
  go_wp2
  go_ret2
  exact ⟨rfl, (by repeat' (first | with_reducible exact Below.refl _ _ | with_reducible assumption | with_reducible apply Below.drew | with_reducible apply below_drewN | with_reducible apply Below.alloc | with_reducible apply Below.setCell | (with_reducible refine Below.trans ?_ (Below.mono (by assumption) ?_)) | (simp; done) | (simp; omega) | omega | with_reducible apply le_size_alloc | with_reducible apply le_size_drewN | with_reducible apply le_size_drew | with_reducible apply le_size_setCell | refine Nat.le_trans ?_ (Below.size (by assumption))))⟩

set_option maxHeartbeats 2000000 in
theorem RWhich_ok (Aa Ai Ar : Option Addr) (ca ci cr : Nat) (xs ys : List Int) (rs : List Bool) (w : World) (hm : InMem w Aa Ai Ar xs ys rs) (hc : lruChk xs ys rs = 0) :
    Calls Try.prog 24 #[.agg #[.slice Aa xs.length ca, .slice Ai ys.length ci, .slice Ar rs.length cr]] w fun e w' => e = .returned (.tuple #[.int .i64 (whichS xs ys rs), .int .i64 0]) ∧ Below w.heap.size w w' := by
  have hv := valid_of_chk hc
  have hlen := hv.len
  have hhi := hv.hi
  have HV := Lib.hid hv; have HM := Lib.hid hm; have HC := Lib.hid hc
  obtain ⟨t1, t2⟩ := tgt_bd (xs.length + ys.length) (by omega) (by omega)
  clear hm hv hc
  by_cases hc : 0 < xs.length ∧ (ys.length : Int) < tgt (xs.length + ys.length)
  · obtain ⟨hx, ht⟩ := hc
    have hW : Hid (whichS xs ys rs = 1) := if_pos ⟨hx, ht⟩
    have hmx : 0 < max 0 (tgt (xs.length + ys.length) - ys.length) := by omega
    go_enter Try.func24, Try.ntmps24
    go_wp2_with fail
    have hm1 := HM.out.ext (w' := (w.alloc (.cells #[.slice Aa xs.length ca, .slice Ai ys.length ci, .slice Ar rs.length cr] 33))) (by repeat' (first | with_reducible exact Below.refl _ _ | with_reducible assumption | with_reducible apply Below.drew | with_reducible apply below_drewN | with_reducible apply Below.alloc | with_reducible apply Below.setCell | (with_reducible refine Below.trans ?_ (Below.mono (by assumption) ?_)) | (simp; done) | (simp; omega) | omega | with_reducible apply le_size_alloc | with_reducible apply le_size_drewN | with_reducible apply le_size_drew | with_reducible apply le_size_setCell | refine Nat.le_trans ?_ (Below.size (by assumption))))
    refine (RCheck_any _ _ _ _ _ _ _ _ _ _ hm1).mono ?_
    rw [HC.out]
    rintro e w0 ⟨rfl, hb0⟩
    have p0 : w0.cell? ⟨w.heap.size, 0, none⟩ = some (.slice Aa xs.length ca) := cell_keep hb0 (by simp) (by simp)
    have p1 : w0.cell? ⟨w.heap.size, 1, none⟩ = some (.slice Ai ys.length ci) := cell_keep hb0 (by simp) (by simp)
    have p2 : w0.cell? ⟨w.heap.size, 2, none⟩ = some (.slice Ar rs.length cr) := cell_keep hb0 (by simp) (by simp)
    go_wp2_with fail
    refine (Rlacks_any _ _ _ _ _ _ _ _ (by omega)).mono ?_
    rintro e w1 ⟨rfl, hb1⟩
    have g0 : w1.cell? ⟨w.heap.size, 0, none⟩ = some (.slice Aa xs.length ca) := cell_keep (B := w.heap.size + 1) (a := w.alloc (.cells #[.slice Aa xs.length ca, .slice Ai ys.length ci, .slice Ar rs.length cr] 33)) (by repeat' (first | with_reducible exact Below.refl _ _ | with_reducible assumption | with_reducible apply Below.drew | with_reducible apply below_drewN | with_reducible apply Below.alloc | with_reducible apply Below.setCell | (with_reducible refine Below.trans ?_ (Below.mono (by assumption) ?_)) | (simp; done) | (simp; omega) | omega | with_reducible apply le_size_alloc | with_reducible apply le_size_drewN | with_reducible apply le_size_drew | with_reducible apply le_size_setCell | refine Nat.le_trans ?_ (Below.size (by assumption)))) (by simp) (by simp)
    have g1 : w1.cell? ⟨w.heap.size, 1, none⟩ = some (.slice Ai ys.length ci) := cell_keep (B := w.heap.size + 1) (a := w.alloc (.cells #[.slice Aa xs.length ca, .slice Ai ys.length ci, .slice Ar rs.length cr] 33)) (by repeat' (first | with_reducible exact Below.refl _ _ | with_reducible assumption | with_reducible apply Below.drew | with_reducible apply below_drewN | with_reducible apply Below.alloc | with_reducible apply Below.setCell | (with_reducible refine Below.trans ?_ (Below.mono (by assumption) ?_)) | (simp; done) | (simp; omega) | omega | with_reducible apply le_size_alloc | with_reducible apply le_size_drewN | with_reducible apply le_size_drew | with_reducible apply le_size_setCell | refine Nat.le_trans ?_ (Below.size (by assumption)))) (by simp) (by simp)
    have g2 : w1.cell? ⟨w.heap.size, 2, none⟩ = some (.slice Ar rs.length cr) := cell_keep (B := w.heap.size + 1) (a := w.alloc (.cells #[.slice Aa xs.length ca, .slice Ai ys.length ci, .slice Ar rs.length cr] 33)) (by repeat' (first | with_reducible exact Below.refl _ _ | with_reducible assumption | with_reducible apply Below.drew | with_reducible apply below_drewN | with_reducible apply Below.alloc | with_reducible apply Below.setCell | (with_reducible refine Below.trans ?_ (Below.mono (by assumption) ?_)) | (simp; done) | (simp; omega) | omega | with_reducible apply le_size_alloc | with_reducible apply le_size_drewN | with_reducible apply le_size_drew | with_reducible apply le_size_setCell | refine Nat.le_trans ?_ (Below.size (by assumption)))) (by simp) (by simp)
    have hbw : Below w.heap.size w w1 := (by repeat' (first | with_reducible exact Below.refl _ _ | with_reducible assumption | with_reducible apply Below.drew | with_reducible apply below_drewN | with_reducible apply Below.alloc | with_reducible apply Below.setCell | (with_reducible refine Below.trans ?_ (Below.mono (by assumption) ?_)) | (simp; done) | (simp; omega) | omega | with_reducible apply le_size_alloc | with_reducible apply le_size_drewN | with_reducible apply le_size_drew | with_reducible apply le_size_setCell | refine Nat.le_trans ?_ (Below.size (by assumption))))
    clear p0 p1 p2
    go_wp2
    go_ret2
    exact ⟨by rw [hW.out]; rfl, (by repeat' (first | with_reducible exact Below.refl _ _ | with_reducible assumption | with_reducible apply Below.drew | with_reducible apply below_drewN | with_reducible apply Below.alloc | with_reducible apply Below.setCell | (with_reducible refine Below.trans ?_ (Below.mono (by assumption) ?_)) | (simp; done) | (simp; omega) | omega | with_reducible apply le_size_alloc | with_reducible apply le_size_drewN | with_reducible apply le_size_drew | with_reducible apply le_size_setCell | refine Nat.le_trans ?_ (Below.size (by assumption))))⟩
  · have hlo : ¬ (0 < xs.length ∧ 0 < max 0 (tgt (xs.length + ys.length) - ys.length)) := by omega
    have hW0 : Hid (whichS xs ys rs = if 0 < ys.length then (if rs.getD (ys.getD (ys.length - 1) 0).toNat false then 2 else 3) else 0) := if_neg hc
    clear hc
    by_cases hy : 0 < ys.length
    · obtain ⟨b, off, x, rfl, hbl, hx1, hcx⟩ := HM.out.i.at_ (k := ys.length - 1) (by omega)
      obtain ⟨hx2, hx3⟩ := HV.out.range x (List.mem_append_right _ (List.mem_of_getElem? hx1))
      obtain ⟨br, offr, r, rfl, hbr, hr1, hcr⟩ := HM.out.r.at_ (k := x.toNat) (by omega)
      have hW : Hid (whichS xs ys rs = if r then 2 else 3) := by
        show _ = _
        rw [hW0.out, if_pos hy]
        simp [List.getD_eq_getElem?_getD, hx1, hr1]
      clear hW0 hx1 hr1
      by_cases hx : 0 < xs.length
      · have hmx : ¬ 0 < max 0 (tgt (xs.length + ys.length) - ys.length) := by omega
        go_enter Try.func24, Try.ntmps24
        go_wp2_with fail
        have hm1 := HM.out.ext (w' := (w.alloc (.cells #[.slice Aa xs.length ca, .slice (some ⟨b, off, none⟩) ys.length ci, .slice (some ⟨br, offr, none⟩) rs.length cr] 33))) (by repeat' (first | with_reducible exact Below.refl _ _ | with_reducible assumption | with_reducible apply Below.drew | with_reducible apply below_drewN | with_reducible apply Below.alloc | with_reducible apply Below.setCell | (with_reducible refine Below.trans ?_ (Below.mono (by assumption) ?_)) | (simp; done) | (simp; omega) | omega | with_reducible apply le_size_alloc | with_reducible apply le_size_drewN | with_reducible apply le_size_drew | with_reducible apply le_size_setCell | refine Nat.le_trans ?_ (Below.size (by assumption))))
        refine (RCheck_any _ _ _ _ _ _ _ _ _ _ hm1).mono ?_
        rw [HC.out]
        rintro e w0 ⟨rfl, hb0⟩
        have p0 : w0.cell? ⟨w.heap.size, 0, none⟩ = some (.slice Aa xs.length ca) := cell_keep hb0 (by simp) (by simp)
        have p1 : w0.cell? ⟨w.heap.size, 1, none⟩ = some (.slice (some ⟨b, off, none⟩) ys.length ci) := cell_keep hb0 (by simp) (by simp)
        have p2 : w0.cell? ⟨w.heap.size, 2, none⟩ = some (.slice (some ⟨br, offr, none⟩) rs.length cr) := cell_keep hb0 (by simp) (by simp)
        go_wp2_with fail
        refine (Rlacks_any _ _ _ _ _ _ _ _ (by omega)).mono ?_
        rintro e w1 ⟨rfl, hb1⟩
        have g0 : w1.cell? ⟨w.heap.size, 0, none⟩ = some (.slice Aa xs.length ca) := cell_keep (B := w.heap.size + 1) (a := w.alloc (.cells #[.slice Aa xs.length ca, .slice (some ⟨b, off, none⟩) ys.length ci, .slice (some ⟨br, offr, none⟩) rs.length cr] 33)) (by repeat' (first | with_reducible exact Below.refl _ _ | with_reducible assumption | with_reducible apply Below.drew | with_reducible apply below_drewN | with_reducible apply Below.alloc | with_reducible apply Below.setCell | (with_reducible refine Below.trans ?_ (Below.mono (by assumption) ?_)) | (simp; done) | (simp; omega) | omega | with_reducible apply le_size_alloc | with_reducible apply le_size_drewN | with_reducible apply le_size_drew | with_reducible apply le_size_setCell | refine Nat.le_trans ?_ (Below.size (by assumption)))) (by simp) (by simp)
        have g1 : w1.cell? ⟨w.heap.size, 1, none⟩ = some (.slice (some ⟨b, off, none⟩) ys.length ci) := cell_keep (B := w.heap.size + 1) (a := w.alloc (.cells #[.slice Aa xs.length ca, .slice (some ⟨b, off, none⟩) ys.length ci, .slice (some ⟨br, offr, none⟩) rs.length cr] 33)) (by repeat' (first | with_reducible exact Below.refl _ _ | with_reducible assumption | with_reducible apply Below.drew | with_reducible apply below_drewN | with_reducible apply Below.alloc | with_reducible apply Below.setCell | (with_reducible refine Below.trans ?_ (Below.mono (by assumption) ?_)) | (simp; done) | (simp; omega) | omega | with_reducible apply le_size_alloc | with_reducible apply le_size_drewN | with_reducible apply le_size_drew | with_reducible apply le_size_setCell | refine Nat.le_trans ?_ (Below.size (by assumption)))) (by simp) (by simp)
        have g2 : w1.cell? ⟨w.heap.size, 2, none⟩ = some (.slice (some ⟨br, offr, none⟩) rs.length cr) := cell_keep (B := w.heap.size + 1) (a := w.alloc (.cells #[.slice Aa xs.length ca, .slice (some ⟨b, off, none⟩) ys.length ci, .slice (some ⟨br, offr, none⟩) rs.length cr] 33)) (by repeat' (first | with_reducible exact Below.refl _ _ | with_reducible assumption | with_reducible apply Below.drew | with_reducible apply below_drewN | with_reducible apply Below.alloc | with_reducible apply Below.setCell | (with_reducible refine Below.trans ?_ (Below.mono (by assumption) ?_)) | (simp; done) | (simp; omega) | omega | with_reducible apply le_size_alloc | with_reducible apply le_size_drewN | with_reducible apply le_size_drew | with_reducible apply le_size_setCell | refine Nat.le_trans ?_ (Below.size (by assumption)))) (by simp) (by simp)
        have hbw : Below w.heap.size w w1 := (by repeat' (first | with_reducible exact Below.refl _ _ | with_reducible assumption | with_reducible apply Below.drew | with_reducible apply below_drewN | with_reducible apply Below.alloc | with_reducible apply Below.setCell | (with_reducible refine Below.trans ?_ (Below.mono (by assumption) ?_)) | (simp; done) | (simp; omega) | omega | with_reducible apply le_size_alloc | with_reducible apply le_size_drewN | with_reducible apply le_size_drew | with_reducible apply le_size_setCell | refine Nat.le_trans ?_ (Below.size (by assumption))))
        clear p0 p1 p2
        have hcx1 := (hbw.cell (p := ⟨b, off + (ys.length - 1), none⟩) hbl).trans hcx
        have hcr1 := (hbw.cell (p := ⟨br, offr + x.toNat, none⟩) hbr).trans hcr
        clear hlo hcx hcr
        cases r
        all_goals
          go_wp2
          go_quiet (fail)
          go_wp2
          go_ret2
          exact ⟨by rw [hW.out]; rfl, (by repeat' (first | with_reducible exact Below.refl _ _ | with_reducible assumption | with_reducible apply Below.drew | with_reducible apply below_drewN | with_reducible apply Below.alloc | with_reducible apply Below.setCell | (with_reducible refine Below.trans ?_ (Below.mono (by assumption) ?_)) | (simp; done) | (simp; omega) | omega | with_reducible apply le_size_alloc | with_reducible apply le_size_drewN | with_reducible apply le_size_drew | with_reducible apply le_size_setCell | refine Nat.le_trans ?_ (Below.size (by assumption))))⟩
      · clear hlo
        go_enter Try.func24, Try.ntmps24
        go_wp2_with fail
        have hm1 := HM.out.ext (w' := (w.alloc (.cells #[.slice Aa xs.length ca, .slice (some ⟨b, off, none⟩) ys.length ci, .slice (some ⟨br, offr, none⟩) rs.length cr] 33))) (by repeat' (first | with_reducible exact Below.refl _ _ | with_reducible assumption | with_reducible apply Below.drew | with_reducible apply below_drewN | with_reducible apply Below.alloc | with_reducible apply Below.setCell | (with_reducible refine Below.trans ?_ (Below.mono (by assumption) ?_)) | (simp; done) | (simp; omega) | omega | with_reducible apply le_size_alloc | with_reducible apply le_size_drewN | with_reducible apply le_size_drew | with_reducible apply le_size_setCell | refine Nat.le_trans ?_ (Below.size (by assumption))))
        refine (RCheck_any _ _ _ _ _ _ _ _ _ _ hm1).mono ?_
        rw [HC.out]
        rintro e w0 ⟨rfl, hb0⟩
        have p0 : w0.cell? ⟨w.heap.size, 0, none⟩ = some (.slice Aa xs.length ca) := cell_keep hb0 (by simp) (by simp)
        have p1 : w0.cell? ⟨w.heap.size, 1, none⟩ = some (.slice (some ⟨b, off, none⟩) ys.length ci) := cell_keep hb0 (by simp) (by simp)
        have p2 : w0.cell? ⟨w.heap.size, 2, none⟩ = some (.slice (some ⟨br, offr, none⟩) rs.length cr) := cell_keep hb0 (by simp) (by simp)
        have hbw : Below w.heap.size w w0 := (by repeat' (first | with_reducible exact Below.refl _ _ | with_reducible assumption | with_reducible apply Below.drew | with_reducible apply below_drewN | with_reducible apply Below.alloc | with_reducible apply Below.setCell | (with_reducible refine Below.trans ?_ (Below.mono (by assumption) ?_)) | (simp; done) | (simp; omega) | omega | with_reducible apply le_size_alloc | with_reducible apply le_size_drewN | with_reducible apply le_size_drew | with_reducible apply le_size_setCell | refine Nat.le_trans ?_ (Below.size (by assumption))))
        have hcx1 := (hbw.cell (p := ⟨b, off + (ys.length - 1), none⟩) hbl).trans hcx
        have hcr1 := (hbw.cell (p := ⟨br, offr + x.toNat, none⟩) hbr).trans hcr
        clear hcx hcr
        cases r
        all_goals
          go_wp2
          go_quiet (fail)
          go_wp2
          go_ret2
          exact ⟨by rw [hW.out]; rfl, (by repeat' (first | with_reducible exact Below.refl _ _ | with_reducible assumption | with_reducible apply Below.drew | with_reducible apply below_drewN | with_reducible apply Below.alloc | with_reducible apply Below.setCell | (with_reducible refine Below.trans ?_ (Below.mono (by assumption) ?_)) | (simp; done) | (simp; omega) | omega | with_reducible apply le_size_alloc | with_reducible apply le_size_drewN | with_reducible apply le_size_drew | with_reducible apply le_size_setCell | refine Nat.le_trans ?_ (Below.size (by assumption))))⟩
    · have hW : Hid (whichS xs ys rs = 0) := by
        show _ = _
        rw [hW0.out, if_neg hy]
      clear hW0
      by_cases hx : 0 < xs.length
      · have hmx : ¬ 0 < max 0 (tgt (xs.length + ys.length) - ys.length) := by omega
        go_enter Try.func24, Try.ntmps24
        go_wp2_with fail
        have hm1 := HM.out.ext (w' := (w.alloc (.cells #[.slice Aa xs.length ca, .slice Ai ys.length ci, .slice Ar rs.length cr] 33))) (by repeat' (first | with_reducible exact Below.refl _ _ | with_reducible assumption | with_reducible apply Below.drew | with_reducible apply below_drewN | with_reducible apply Below.alloc | with_reducible apply Below.setCell | (with_reducible refine Below.trans ?_ (Below.mono (by assumption) ?_)) | (simp; done) | (simp; omega) | omega | with_reducible apply le_size_alloc | with_reducible apply le_size_drewN | with_reducible apply le_size_drew | with_reducible apply le_size_setCell | refine Nat.le_trans ?_ (Below.size (by assumption))))
        refine (RCheck_any _ _ _ _ _ _ _ _ _ _ hm1).mono ?_
        rw [HC.out]
        rintro e w0 ⟨rfl, hb0⟩
        have p0 : w0.cell? ⟨w.heap.size, 0, none⟩ = some (.slice Aa xs.length ca) := cell_keep hb0 (by simp) (by simp)
        have p1 : w0.cell? ⟨w.heap.size, 1, none⟩ = some (.slice Ai ys.length ci) := cell_keep hb0 (by simp) (by simp)
        have p2 : w0.cell? ⟨w.heap.size, 2, none⟩ = some (.slice Ar rs.length cr) := cell_keep hb0 (by simp) (by simp)
        go_wp2_with fail
        refine (Rlacks_any _ _ _ _ _ _ _ _ (by omega)).mono ?_
        rintro e w1 ⟨rfl, hb1⟩
        have g0 : w1.cell? ⟨w.heap.size, 0, none⟩ = some (.slice Aa xs.length ca) := cell_keep (B := w.heap.size + 1) (a := w.alloc (.cells #[.slice Aa xs.length ca, .slice Ai ys.length ci, .slice Ar rs.length cr] 33)) (by repeat' (first | with_reducible exact Below.refl _ _ | with_reducible assumption | with_reducible apply Below.drew | with_reducible apply below_drewN | with_reducible apply Below.alloc | with_reducible apply Below.setCell | (with_reducible refine Below.trans ?_ (Below.mono (by assumption) ?_)) | (simp; done) | (simp; omega) | omega | with_reducible apply le_size_alloc | with_reducible apply le_size_drewN | with_reducible apply le_size_drew | with_reducible apply le_size_setCell | refine Nat.le_trans ?_ (Below.size (by assumption)))) (by simp) (by simp)
        have g1 : w1.cell? ⟨w.heap.size, 1, none⟩ = some (.slice Ai ys.length ci) := cell_keep (B := w.heap.size + 1) (a := w.alloc (.cells #[.slice Aa xs.length ca, .slice Ai ys.length ci, .slice Ar rs.length cr] 33)) (by repeat' (first | with_reducible exact Below.refl _ _ | with_reducible assumption | with_reducible apply Below.drew | with_reducible apply below_drewN | with_reducible apply Below.alloc | with_reducible apply Below.setCell | (with_reducible refine Below.trans ?_ (Below.mono (by assumption) ?_)) | (simp; done) | (simp; omega) | omega | with_reducible apply le_size_alloc | with_reducible apply le_size_drewN | with_reducible apply le_size_drew | with_reducible apply le_size_setCell | refine Nat.le_trans ?_ (Below.size (by assumption)))) (by simp) (by simp)
        have g2 : w1.cell? ⟨w.heap.size, 2, none⟩ = some (.slice Ar rs.length cr) := cell_keep (B := w.heap.size + 1) (a := w.alloc (.cells #[.slice Aa xs.length ca, .slice Ai ys.length ci, .slice Ar rs.length cr] 33)) (by repeat' (first | with_reducible exact Below.refl _ _ | with_reducible assumption | with_reducible apply Below.drew | with_reducible apply below_drewN | with_reducible apply Below.alloc | with_reducible apply Below.setCell | (with_reducible refine Below.trans ?_ (Below.mono (by assumption) ?_)) | (simp; done) | (simp; omega) | omega | with_reducible apply le_size_alloc | with_reducible apply le_size_drewN | with_reducible apply le_size_drew | with_reducible apply le_size_setCell | refine Nat.le_trans ?_ (Below.size (by assumption)))) (by simp) (by simp)
        have hbw : Below w.heap.size w w1 := (by repeat' (first | with_reducible exact Below.refl _ _ | with_reducible assumption | with_reducible apply Below.drew | with_reducible apply below_drewN | with_reducible apply Below.alloc | with_reducible apply Below.setCell | (with_reducible refine Below.trans ?_ (Below.mono (by assumption) ?_)) | (simp; done) | (simp; omega) | omega | with_reducible apply le_size_alloc | with_reducible apply le_size_drewN | with_reducible apply le_size_drew | with_reducible apply le_size_setCell | refine Nat.le_trans ?_ (Below.size (by assumption))))
        clear p0 p1 p2
        clear hlo
        go_wp2
        go_quiet (fail)
        go_wp2
        go_ret2
        exact ⟨by rw [hW.out]; rfl, (by repeat' (first | with_reducible exact Below.refl _ _ | with_reducible assumption | with_reducible apply Below.drew | with_reducible apply below_drewN | with_reducible apply Below.alloc | with_reducible apply Below.setCell | (with_reducible refine Below.trans ?_ (Below.mono (by assumption) ?_)) | (simp; done) | (simp; omega) | omega | with_reducible apply le_size_alloc | with_reducible apply le_size_drewN | with_reducible apply le_size_drew | with_reducible apply le_size_setCell | refine Nat.le_trans ?_ (Below.size (by assumption))))⟩
      · clear hlo
        go_enter Try.func24, Try.ntmps24
        go_wp2_with fail
        have hm1 := HM.out.ext (w' := (w.alloc (.cells #[.slice Aa xs.length ca, .slice Ai ys.length ci, .slice Ar rs.length cr] 33))) (by repeat' (first | with_reducible exact Below.refl _ _ | with_reducible assumption | with_reducible apply Below.drew | with_reducible apply below_drewN | with_reducible apply Below.alloc | with_reducible apply Below.setCell | (with_reducible refine Below.trans ?_ (Below.mono (by assumption) ?_)) | (simp; done) | (simp; omega) | omega | with_reducible apply le_size_alloc | with_reducible apply le_size_drewN | with_reducible apply le_size_drew | with_reducible apply le_size_setCell | refine Nat.le_trans ?_ (Below.size (by assumption))))
        refine (RCheck_any _ _ _ _ _ _ _ _ _ _ hm1).mono ?_
        rw [HC.out]
        rintro e w0 ⟨rfl, hb0⟩
        have p0 : w0.cell? ⟨w.heap.size, 0, none⟩ = some (.slice Aa xs.length ca) := cell_keep hb0 (by simp) (by simp)
        have p1 : w0.cell? ⟨w.heap.size, 1, none⟩ = some (.slice Ai ys.length ci) := cell_keep hb0 (by simp) (by simp)
        have p2 : w0.cell? ⟨w.heap.size, 2, none⟩ = some (.slice Ar rs.length cr) := cell_keep hb0 (by simp) (by simp)
        go_wp2
        go_quiet (fail)
        go_wp2
        go_ret2
        exact ⟨by rw [hW.out]; rfl, (by repeat' (first | with_reducible exact Below.refl _ _ | with_reducible assumption | with_reducible apply Below.drew | with_reducible apply below_drewN | with_reducible apply Below.alloc | with_reducible apply Below.setCell | (with_reducible refine Below.trans ?_ (Below.mono (by assumption) ?_)) | (simp; done) | (simp; omega) | omega | with_reducible apply le_size_alloc | with_reducible apply le_size_drewN | with_reducible apply le_size_drew | with_reducible apply le_size_setCell | refine Nat.le_trans ?_ (Below.size (by assumption))))⟩

theorem RWhich_S (Aa Ai Ar : Option Addr) (ca ci cr : Nat) (xs ys : List Int) (rs : List Bool) (w : World) (hm : InMem w Aa Ai Ar xs ys rs) (hl : ys.length ≤ 1000) : Calls Try.prog 24 #[.agg #[.slice Aa xs.length ca, .slice Ai ys.length ci, .slice Ar rs.length cr]] w fun e w' => e = .returned (.tuple #[.int .i64 (whichV xs ys rs), .int .i64 (lruChk xs ys rs)]) ∧ Below w.heap.size w w' := by
  unfold whichV
  by_cases h0 : lruChk xs ys rs ≠ 0
  · rw [if_pos h0]
    exact RWhich_bad _ _ _ _ _ _ _ _ _ _ _ hm rfl h0 hl
  · rw [if_neg h0]
    have h0' : lruChk xs ys rs = 0 := by simpa using h0
    rw [h0']
    exact RWhich_ok _ _ _ _ _ _ _ _ _ _ hm h0'
theorem RLacks_S (Aa Ai Ar : Option Addr) (ca ci cr : Nat) (xs ys : List Int) (rs : List Bool) (w : World) (hm : InMem w Aa Ai Ar xs ys rs) (hl : ys.length ≤ 1000) : Calls Try.prog 26 #[.agg #[.slice Aa xs.length ca, .slice Ai ys.length ci, .slice Ar rs.length cr]] w fun e w' => e = .returned (.tuple #[.int .i64 (lacksV xs ys rs), .int .i64 (lruChk xs ys rs)]) ∧ Below w.heap.size w w' := by
  unfold lacksV
  by_cases h0 : lruChk xs ys rs ≠ 0
  · rw [if_pos h0]
    exact RLacks_bad _ _ _ _ _ _ _ _ _ _ _ hm rfl h0 hl
  · rw [if_neg h0]
    have h0' : lruChk xs ys rs = 0 := by simpa using h0
    rw [h0']
    exact RLacks_ok _ _ _ _ _ _ _ _ _ _ hm h0'

set_option maxRecDepth 100000 in
set_option maxHeartbeats 3000000 in
theorem RSteps_ok (Aa Ai Ar : Option Addr) (ca ci cr : Nat) (xs ys : List Int) (rs : List Bool) (w : World) (hm : InMem w Aa Ai Ar xs ys rs) (hc : lruChk xs ys rs = 0) :
    Calls Try.prog 27 #[.agg #[.slice Aa xs.length ca, .slice Ai ys.length ci, .slice Ar rs.length cr]] w fun e w' => e = .returned (.tuple #[.int .i64 (stepsS xs ys rs), .int .i64 0]) ∧ Below w.heap.size w w' := by
  have hv := valid_of_chk hc
  have hhi := hv.hi
  have hmu := mu_le hv
  have hle := steps_le xs ys rs
  have HM := Lib.hid hm; have HC := Lib.hid hc
  clear hm hc hv
  go_enter Try.func27, Try.ntmps27
  go_wp2_with fail
  have hm1 := HM.out.ext (w' := (w.alloc (.cells #[.slice Aa xs.length ca, .slice Ai ys.length ci, .slice Ar rs.length cr] 33))) (by repeat' (first | with_reducible exact Below.refl _ _ | with_reducible assumption | with_reducible apply Below.drew | with_reducible apply below_drewN | with_reducible apply Below.alloc | with_reducible apply Below.setCell | (with_reducible refine Below.trans ?_ (Below.mono (by assumption) ?_)) | (simp; done) | (simp; omega) | omega | with_reducible apply le_size_alloc | with_reducible apply le_size_drewN | with_reducible apply le_size_drew | with_reducible apply le_size_setCell | refine Nat.le_trans ?_ (Below.size (by assumption))))
  refine (RCheck_any _ _ _ _ _ _ _ _ _ _ hm1).mono ?_
  rw [HC.out]
  rintro e w1 ⟨rfl, hb1⟩
  have bk1 : Blk w1 w.heap.size 33 #[.slice Aa xs.length ca, .slice Ai ys.length ci, .slice Ar rs.length cr] := (Blk.new_ (w := w) rfl rfl).below_ hb1 (by simp)
  have M1 := Lib.hid (hm1.ext hb1); have BK1 := Lib.hid bk1
  have bw1 : Below w.heap.size w w1 := (by repeat' (first | with_reducible exact Below.refl _ _ | with_reducible assumption | with_reducible apply Below.drew | with_reducible apply below_drewN | with_reducible apply Below.alloc | with_reducible apply Below.setCell | (with_reducible refine Below.trans ?_ (Below.mono (by assumption) ?_)) | (simp; done) | (simp; omega) | omega | with_reducible apply le_size_alloc | with_reducible apply le_size_drewN | with_reducible apply le_size_drew | with_reducible apply le_size_setCell | refine Nat.le_trans ?_ (Below.size (by assumption))))
  have BW1 := Lib.hid bw1
  clear hm1 bk1 bw1
  go_wp2_with fail
  go_loopw [5] (fun v wr => ∃ (n : Nat) (A1 : Option Addr) (c1 : Nat) (A2 : Option Addr) (c2 : Nat) (A3 : Option Addr) (c3 : Nat) (us vs : List Int) (ts : List Bool), v = .int .i64 n ∧
      Blk wr w.heap.size 33 #[.slice A1 us.length c1, .slice A2 vs.length c2, .slice A3 ts.length c3] ∧ InMem wr A1 A2 A3 us vs ts ∧ Hid (lruChk us vs ts = 0) ∧ Hid (n + stepsS us vs ts = stepsS xs ys rs) ∧ Below w.heap.size w wr)
    (fun v _ => stepsS xs ys rs - (intOf v).toNat)
  case atStart => exact ⟨0, Aa, ca, Ai, ci, Ar, cr, xs, ys, rs, rfl, BK1.out, M1.out, HC, by simp [Hid], BW1.out⟩
  case round =>
    obtain ⟨n, A1, c1, A2, c2, A3, c3, us, vs, ts, rfl, bk, m, HCK, HN, hbw⟩ := hrel
    have k0 := (bk.cell_ 0).trans (by simp : _ = some (.slice A1 us.length c1))
    have k1 := (bk.cell_ 1).trans (by simp : _ = some (.slice A2 vs.length c2))
    have k2 := (bk.cell_ 2).trans (by simp : _ = some (.slice A3 ts.length c3))
    have hzr : w.heap.size < wr.heap.size := bk.lt
    have hn1 : n ≤ stepsS xs ys rs := by have := HN.out; omega
    have hlv : vs.length ≤ 1000 := by have h1 := (valid_of_chk HCK.out).len; have h2 := (valid_of_chk HCK.out).hi; omega
    have BK := Lib.hid bk; have M := Lib.hid m
    clear bk m
    rcases (which_cases us vs ts).imp (·.1) (Or.imp (·.1) (Or.imp (·.1) (·.1))) with hwh | hwh | hwh | hwh
    · have hnx := next_dem HCK.out hwh
      have hon := steps_on HCK.out (.inl hwh)
      have nok := next_ok HCK.out (.inl hwh)
      obtain ⟨⟨us', vs', ts', z'⟩, hR⟩ : ∃ R : LR, nextL us vs ts = R := ⟨_, rfl⟩
      rw [hR] at hon nok
      have hz' : z' = 0 := nok.e
      subst hz'
      have HSS : Hid (demS us vs ts = ⟨us', vs', ts', 0⟩) := hnx.2.1.trans hR
      have HC2 : Hid (lruChk us' vs' ts' = 0) := nok.chk
      have HN2 : Hid ((n + 1) + stepsS us' vs' ts' = stepsS xs ys rs) := by
        show _ = _
        have h1 := HN.out
        have h2 : stepsS us vs ts = 1 + stepsS us' vs' ts' := hon
        omega
      have hn2 : n + 1 ≤ stepsS xs ys rs := by have := HN2.out; omega
      have HW1 : Hid (whichV us vs ts = 1) := by show _ = _; unfold whichV; rw [if_neg (by simpa using HCK.out), hwh]
      clear hnx hon nok hR hwh
      go_wp2_with fail
      refine (RWhich_S _ _ _ _ _ _ _ _ _ _ M.out hlv).mono ?_
      rw [HW1.out, HCK.out]
      rintro e w4 ⟨rfl, h4⟩
      have b4 := BK.out.below_ h4 BK.out.lt
      have hz4 : wr.heap.size ≤ w4.heap.size := h4.size
      have j0 := (b4.cell_ 0).trans (by simp : _ = some (.slice A1 us.length c1))
      have j1 := (b4.cell_ 1).trans (by simp : _ = some (.slice A2 vs.length c2))
      have j2 := (b4.cell_ 2).trans (by simp : _ = some (.slice A3 ts.length c3))
      have B4 := Lib.hid b4; have M4 := Lib.hid (M.out.ext h4); have H4 := Lib.hid h4
      clear k0 k1 k2 b4 h4
      go_wp2_with fail
      refine (RDemote_S _ _ _ _ _ _ _ _ _ _ M4.out).mono ?_
      unfold LPost3
      rw [HSS.out]
      rintro e w5 ⟨D1, d1, D2, d2, D3, d3, rfl, m5, t5, h5⟩
      dsimp only at m5 ⊢
      have hz5 : w4.heap.size ≤ w5.heap.size := h5.size
      have b5 := B4.out.below_ h5 B4.out.lt
      have i0 := (b5.cell_ 0).trans (by simp : _ = some (.slice A1 us.length c1))
      have i1 := (b5.cell_ 1).trans (by simp : _ = some (.slice A2 vs.length c2))
      have i2 := (b5.cell_ 2).trans (by simp : _ = some (.slice A3 ts.length c3))
      have i3 := b5.frozen_ 0; have i4 := b5.frozen_ 1; have i5 := b5.frozen_ 2
      have B5 := Lib.hid b5; have M5 := Lib.hid m5; have T5 := Lib.hid t5; have H5 := Lib.hid h5
      clear j0 j1 j2 b5 m5 t5 h5
      go_wp2
      go_roundw
      case rel =>
        refine ⟨n + 1, D1, d1, D2, d2, D3, d3, us', vs', ts', by go_num, ?_, ((M5.out.far_ T5.out (by omega) _ _).far_ T5.out (by omega) _ _).far_ T5.out (by omega) _ _, HC2, HN2, ?_⟩
        · have := ((B5.out.set_ 0 (.slice D1 us'.length d1)).set_ 1 (.slice D2 vs'.length d2)).set_ 2 (.slice D3 ts'.length d3)
          simpa using this
        · have hb6 : Below w.heap.size w w5 := (hbw.trans (H4.out.mono (by omega))).trans (H5.out.mono (by omega))
          exact ((hb6.setCell (Nat.le_refl _) _).setCell (Nat.le_refl _) _).setCell (Nat.le_refl _) _
      case measure => simp [intOf]; omega
    · have hnx := next_pro HCK.out hwh
      have hon := steps_on HCK.out (.inr hwh)
      have nok := next_ok HCK.out (.inr hwh)
      obtain ⟨⟨us', vs', ts', z'⟩, hR⟩ : ∃ R : LR, nextL us vs ts = R := ⟨_, rfl⟩
      rw [hR] at hon nok
      have hz' : z' = 0 := nok.e
      subst hz'
      have HSS : Hid (proS us vs ts = ⟨us', vs', ts', 0⟩) := hnx.2.1.trans hR
      have HC2 : Hid (lruChk us' vs' ts' = 0) := nok.chk
      have HN2 : Hid ((n + 1) + stepsS us' vs' ts' = stepsS xs ys rs) := by
        show _ = _
        have h1 := HN.out
        have h2 : stepsS us vs ts = 1 + stepsS us' vs' ts' := hon
        omega
      have hn2 : n + 1 ≤ stepsS xs ys rs := by have := HN2.out; omega
      have HW1 : Hid (whichV us vs ts = 2) := by show _ = _; unfold whichV; rw [if_neg (by simpa using HCK.out), hwh]
      clear hnx hon nok hR hwh
      go_wp2_with fail
      refine (RWhich_S _ _ _ _ _ _ _ _ _ _ M.out hlv).mono ?_
      rw [HW1.out, HCK.out]
      rintro e w4 ⟨rfl, h4⟩
      have b4 := BK.out.below_ h4 BK.out.lt
      have hz4 : wr.heap.size ≤ w4.heap.size := h4.size
      have j0 := (b4.cell_ 0).trans (by simp : _ = some (.slice A1 us.length c1))
      have j1 := (b4.cell_ 1).trans (by simp : _ = some (.slice A2 vs.length c2))
      have j2 := (b4.cell_ 2).trans (by simp : _ = some (.slice A3 ts.length c3))
      have B4 := Lib.hid b4; have M4 := Lib.hid (M.out.ext h4); have H4 := Lib.hid h4
      clear k0 k1 k2 b4 h4
      go_wp2_with fail
      refine (RPromote_S _ _ _ _ _ _ _ _ _ _ M4.out).mono ?_
      unfold LPost3
      rw [HSS.out]
      rintro e w5 ⟨D1, d1, D2, d2, D3, d3, rfl, m5, t5, h5⟩
      dsimp only at m5 ⊢
      have hz5 : w4.heap.size ≤ w5.heap.size := h5.size
      have b5 := B4.out.below_ h5 B4.out.lt
      have i0 := (b5.cell_ 0).trans (by simp : _ = some (.slice A1 us.length c1))
      have i1 := (b5.cell_ 1).trans (by simp : _ = some (.slice A2 vs.length c2))
      have i2 := (b5.cell_ 2).trans (by simp : _ = some (.slice A3 ts.length c3))
      have i3 := b5.frozen_ 0; have i4 := b5.frozen_ 1; have i5 := b5.frozen_ 2
      have B5 := Lib.hid b5; have M5 := Lib.hid m5; have T5 := Lib.hid t5; have H5 := Lib.hid h5
      clear j0 j1 j2 b5 m5 t5 h5
      go_wp2
      go_roundw
      case rel =>
        refine ⟨n + 1, D1, d1, D2, d2, D3, d3, us', vs', ts', by go_num, ?_, ((M5.out.far_ T5.out (by omega) _ _).far_ T5.out (by omega) _ _).far_ T5.out (by omega) _ _, HC2, HN2, ?_⟩
        · have := ((B5.out.set_ 0 (.slice D1 us'.length d1)).set_ 1 (.slice D2 vs'.length d2)).set_ 2 (.slice D3 ts'.length d3)
          simpa using this
        · have hb6 : Below w.heap.size w w5 := (hbw.trans (H4.out.mono (by omega))).trans (H5.out.mono (by omega))
          exact ((hb6.setCell (Nat.le_refl _) _).setCell (Nat.le_refl _) _).setCell (Nat.le_refl _) _
      case measure => simp [intOf]; omega
    · have hst : stepsS us vs ts = 0 := steps_end (by rw [hwh]; simp)
      have HN3 : Hid (n = stepsS xs ys rs) := by show _ = _; have := HN.out; omega
      have HW1 : Hid (whichV us vs ts = 3) := by show _ = _; unfold whichV; rw [if_neg (by simpa using HCK.out), hwh]
      clear hwh hst
      go_wp2_with fail
      refine (RWhich_S _ _ _ _ _ _ _ _ _ _ M.out hlv).mono ?_
      rw [HW1.out, HCK.out]
      rintro e w4 ⟨rfl, h4⟩
      clear k0 k1 k2
      go_wp2
      go_ret2
      exact ⟨by rw [← HN3.out]; rfl, hbw.trans (h4.mono (by omega))⟩
    · have hst : stepsS us vs ts = 0 := steps_end (by rw [hwh]; simp)
      have HN3 : Hid (n = stepsS xs ys rs) := by show _ = _; have := HN.out; omega
      have HW1 : Hid (whichV us vs ts = 0) := by show _ = _; unfold whichV; rw [if_neg (by simpa using HCK.out), hwh]
      clear hwh hst
      go_wp2_with fail
      refine (RWhich_S _ _ _ _ _ _ _ _ _ _ M.out hlv).mono ?_
      rw [HW1.out, HCK.out]
      rintro e w4 ⟨rfl, h4⟩
      clear k0 k1 k2
      go_wp2
      go_ret2
      exact ⟨by rw [← HN3.out]; rfl, hbw.trans (h4.mono (by omega))⟩

theorem RSteps_S (Aa Ai Ar : Option Addr) (ca ci cr : Nat) (xs ys : List Int) (rs : List Bool) (w : World) (hm : InMem w Aa Ai Ar xs ys rs) (hl : ys.length ≤ 1000) : Calls Try.prog 27 #[.agg #[.slice Aa xs.length ca, .slice Ai ys.length ci, .slice Ar rs.length cr]] w fun e w' => e = .returned (.tuple #[.int .i64 (stepsV xs ys rs), .int .i64 (lruChk xs ys rs)]) ∧ Below w.heap.size w w' := by
  unfold stepsV
  by_cases h0 : lruChk xs ys rs ≠ 0
  · rw [if_pos h0]
    exact RSteps_bad _ _ _ _ _ _ _ _ _ _ _ hm rfl h0 hl
  · rw [if_neg h0]
    have h0' : lruChk xs ys rs = 0 := by simpa using h0
    rw [h0']
    exact RSteps_ok _ _ _ _ _ _ _ _ _ _ hm h0'
end Go.Proofs.Ytifimhfdapkpoaa
