/- Contracts of the package balance over lists, and the examples of the chapter. -/
import Derived.Test.YtifimhfdapkpoaaBal
import Derived.Test.YtifimhfdapkpoaaLruU
namespace Go.Proofs.Ytifimhfdapkpoaa
open Go.RowKit Go.Maps

theorem tgt_bd (n : Int) (h0 : 0 ≤ n) (h1 : n ≤ 256) : 0 ≤ tgt n ∧ tgt n ≤ n := by
  obtain ⟨a, b⟩ := rat_bd n
  unfold tgt
  generalize rat n = r at *
  have h2 : 0 < r + 1 := by omega
  constructor
  · exact Int.ediv_nonneg (by omega) (by omega)
  · have h3 : (n + r) / (r + 1) < n + 1 := by
      refine Int.ediv_lt_of_lt_mul h2 ?_
      have : 0 ≤ n * r := Int.mul_nonneg (by omega) (by omega)
      have e : (n + 1) * (r + 1) = n * r + (n + r) + 1 := by rw [Int.add_mul, Int.mul_add]; omega
      omega
    omega

set_option maxHeartbeats 400000 in
theorem lacks_any (Aa Ai : Option Addr) (vr : Value) (na ca ni ci : Nat) (w : World) (h : na + ni ≤ 256) :
    Calls Try.prog 47 #[.agg #[.slice Aa na ca, .slice Ai ni ci, vr]] w fun e w' =>
      e = .returned (.int .i64 (max 0 (tgt (na + ni) - ni))) ∧ Below w.heap.size w w' := by
  obtain ⟨t1, t2⟩ := tgt_bd (na + ni) (by omega) (by omega)
  go_enter Try.func47, Try.ntmps47
  go_wp2
  go_quiet ((go_at_call 34; exact quiet_l (target_any _ _ (by omega) (by omega))))
  go_wp2
  all_goals
    go_ret
    exact ⟨ret_int (by omega), (by repeat' (first | with_reducible exact Below.refl _ _ | with_reducible assumption | with_reducible apply Below.drew | with_reducible apply below_drewN | with_reducible apply Below.alloc | with_reducible apply Below.setCell | (with_reducible refine Below.trans ?_ (Below.mono (by assumption) ?_)) | (simp; done) | (simp; omega) | omega | with_reducible apply le_size_alloc | with_reducible apply le_size_drewN | with_reducible apply le_size_drew | with_reducible apply le_size_setCell | refine Nat.le_trans ?_ (Below.size (by assumption))))⟩

/-- What is done next: 1 demote, 2 promote, 3 write out, 0 nothing. -/
def whichS (xs ys : List Int) (rs : List Bool) : Int :=
  if 0 < xs.length ∧ (ys.length : Int) < tgt (xs.length + ys.length) then 1
  else if 0 < ys.length then (if rs.getD (ys.getD (ys.length - 1) 0).toNat false then 2 else 3) else 0

set_option maxHeartbeats 1000000 in
theorem which_any (Aa Ai Ar : Option Addr) (ca ci cr : Nat) (xs ys : List Int) (rs : List Bool) (w : World)
    (hi : Sl w (.int .i64) Ai ys) (hr : Sl w .bool Ar rs) (hv : Valid xs ys rs) :
    Calls Try.prog 41 #[.agg #[.slice Aa xs.length ca, .slice Ai ys.length ci, .slice Ar rs.length cr]] w fun e w' =>
      e = .returned (.int .i64 (whichS xs ys rs)) ∧ Below w.heap.size w w' := by
  have hlen := hv.len
  have hhi := hv.hi
  have HI := Lib.hid hi; have HR := Lib.hid hr; have HV := Lib.hid hv
  clear hi hr hv
  by_cases hc : 0 < xs.length ∧ (ys.length : Int) < tgt (xs.length + ys.length)
  · have hW : Hid (whichS xs ys rs = 1) := if_pos hc
    obtain ⟨hx, hl⟩ := hc
    go_enter Try.func41, Try.ntmps41
    go_wp2_with fail
    refine (lacks_any _ _ _ _ _ _ _ _ (by omega)).mono ?_
    rintro e w1 ⟨rfl, hb1⟩
    have hm : 0 < max 0 (tgt (xs.length + ys.length) - ys.length) := by omega
    go_wp2
    go_ret
    exact ⟨ret_int hW.out.symm, (by repeat' (first | with_reducible exact Below.refl _ _ | with_reducible assumption | with_reducible apply Below.drew | with_reducible apply below_drewN | with_reducible apply Below.alloc | with_reducible apply Below.setCell | (with_reducible refine Below.trans ?_ (Below.mono (by assumption) ?_)) | (simp; done) | (simp; omega) | omega | with_reducible apply le_size_alloc | with_reducible apply le_size_drewN | with_reducible apply le_size_drew | with_reducible apply le_size_setCell | refine Nat.le_trans ?_ (Below.size (by assumption))))⟩
  · have hlo : ¬ (0 < xs.length ∧ 0 < max 0 (tgt (xs.length + ys.length) - ys.length)) := by omega
    have hW0 : Hid (whichS xs ys rs = if 0 < ys.length then (if rs.getD (ys.getD (ys.length - 1) 0).toNat false then 2 else 3) else 0) := if_neg hc
    clear hc
    by_cases hy : 0 < ys.length
    · obtain ⟨b, off, x, rfl, hbl, hx1, hcx⟩ := HI.out.at_ (k := ys.length - 1) (by omega)
      obtain ⟨hx2, hx3⟩ := HV.out.range x (List.mem_append_right _ (List.mem_of_getElem? hx1))
      obtain ⟨br, offr, r, rfl, hbr, hr1, hcr⟩ := HR.out.at_ (k := x.toNat) (by omega)
      have hW : Hid (whichS xs ys rs = if r then 2 else 3) := by
        show _ = _
        rw [hW0.out, if_pos hy]
        simp [List.getD_eq_getElem?_getD, hx1, hr1]
      clear hW0 hx1 hr1
      by_cases hx : 0 < xs.length
      · go_enter Try.func41, Try.ntmps41
        go_wp2_with fail
        refine (lacks_any _ _ _ _ _ _ _ _ (by omega)).mono ?_
        rintro e w1 ⟨rfl, hb1⟩
        have hB1 := hb1.cell (p := ⟨w.heap.size, 1, none⟩) (by simp)
        have hB2 := hb1.cell (p := ⟨w.heap.size, 2, none⟩) (by simp)
        have hbw : Below w.heap.size w w1 := (by repeat' (first | with_reducible exact Below.refl _ _ | with_reducible assumption | with_reducible apply Below.drew | with_reducible apply below_drewN | with_reducible apply Below.alloc | with_reducible apply Below.setCell | (with_reducible refine Below.trans ?_ (Below.mono (by assumption) ?_)) | (simp; done) | (simp; omega) | omega | with_reducible apply le_size_alloc | with_reducible apply le_size_drewN | with_reducible apply le_size_drew | with_reducible apply le_size_setCell | refine Nat.le_trans ?_ (Below.size (by assumption))))
        have hcx1 := (hbw.cell (p := ⟨b, off + (ys.length - 1), none⟩) hbl).trans hcx
        have hcr1 := (hbw.cell (p := ⟨br, offr + x.toNat, none⟩) hbr).trans hcr
        have hm : ¬ 0 < max 0 (tgt (xs.length + ys.length) - ys.length) := by omega
        clear hlo
        cases r
        all_goals
          go_wp2
          go_quiet (fail)
          go_wp2
          go_ret
          exact ⟨ret_int hW.out.symm, (by repeat' (first | with_reducible exact Below.refl _ _ | with_reducible assumption | with_reducible apply Below.drew | with_reducible apply below_drewN | with_reducible apply Below.alloc | with_reducible apply Below.setCell | (with_reducible refine Below.trans ?_ (Below.mono (by assumption) ?_)) | (simp; done) | (simp; omega) | omega | with_reducible apply le_size_alloc | with_reducible apply le_size_drewN | with_reducible apply le_size_drew | with_reducible apply le_size_setCell | refine Nat.le_trans ?_ (Below.size (by assumption))))⟩
      · clear hlo
        cases r
        all_goals
          go_enter Try.func41, Try.ntmps41
          go_wp2
          go_quiet (fail)
          go_wp2
          go_ret
          exact ⟨ret_int hW.out.symm, (by repeat' (first | with_reducible exact Below.refl _ _ | with_reducible assumption | with_reducible apply Below.drew | with_reducible apply below_drewN | with_reducible apply Below.alloc | with_reducible apply Below.setCell | (with_reducible refine Below.trans ?_ (Below.mono (by assumption) ?_)) | (simp; done) | (simp; omega) | omega | with_reducible apply le_size_alloc | with_reducible apply le_size_drewN | with_reducible apply le_size_drew | with_reducible apply le_size_setCell | refine Nat.le_trans ?_ (Below.size (by assumption))))⟩
    · have hW : Hid (whichS xs ys rs = 0) := by
        show _ = _
        rw [hW0.out, if_neg hy]
      clear hW0
      by_cases hx : 0 < xs.length
      · go_enter Try.func41, Try.ntmps41
        go_wp2_with fail
        refine (lacks_any _ _ _ _ _ _ _ _ (by omega)).mono ?_
        rintro e w1 ⟨rfl, hb1⟩
        have hbw : Below w.heap.size w w1 := (by repeat' (first | with_reducible exact Below.refl _ _ | with_reducible assumption | with_reducible apply Below.drew | with_reducible apply below_drewN | with_reducible apply Below.alloc | with_reducible apply Below.setCell | (with_reducible refine Below.trans ?_ (Below.mono (by assumption) ?_)) | (simp; done) | (simp; omega) | omega | with_reducible apply le_size_alloc | with_reducible apply le_size_drewN | with_reducible apply le_size_drew | with_reducible apply le_size_setCell | refine Nat.le_trans ?_ (Below.size (by assumption))))
        have hm : ¬ 0 < max 0 (tgt (xs.length + ys.length) - ys.length) := by omega
        clear hlo
        go_wp2
        go_quiet (fail)
        go_wp2
        go_ret
        exact ⟨ret_int hW.out.symm, (by repeat' (first | with_reducible exact Below.refl _ _ | with_reducible assumption | with_reducible apply Below.drew | with_reducible apply below_drewN | with_reducible apply Below.alloc | with_reducible apply Below.setCell | (with_reducible refine Below.trans ?_ (Below.mono (by assumption) ?_)) | (simp; done) | (simp; omega) | omega | with_reducible apply le_size_alloc | with_reducible apply le_size_drewN | with_reducible apply le_size_drew | with_reducible apply le_size_setCell | refine Nat.le_trans ?_ (Below.size (by assumption))))⟩
      · clear hlo
        go_enter Try.func41, Try.ntmps41
        go_wp2
        go_quiet (fail)
        go_wp2
        go_ret
        exact ⟨ret_int hW.out.symm, (by repeat' (first | with_reducible exact Below.refl _ _ | with_reducible assumption | with_reducible apply Below.drew | with_reducible apply below_drewN | with_reducible apply Below.alloc | with_reducible apply Below.setCell | (with_reducible refine Below.trans ?_ (Below.mono (by assumption) ?_)) | (simp; done) | (simp; omega) | omega | with_reducible apply le_size_alloc | with_reducible apply le_size_drewN | with_reducible apply le_size_drew | with_reducible apply le_size_setCell | refine Nat.le_trans ?_ (Below.size (by assumption))))⟩
end Go.Proofs.Ytifimhfdapkpoaa
